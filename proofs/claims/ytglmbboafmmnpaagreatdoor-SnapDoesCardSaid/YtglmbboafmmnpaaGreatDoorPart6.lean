/-
  Parts of the proof: PackD, SuperA, PlanA, PlanB, PlanC, PlanD, PlanE, PlanF, PlanG, TxnA, TxnB, TxnC, TxnD, TxnE, JourA, JourB, JourC, RefcA (short names; the readable texts lie in the repo, under wip).
-/
import Derived.Test.YtglmbboafmmnpaaGreatDoorPart5
import Derived.Test.YtglmbboafmmnpaaGreatDoorPart4
set_option maxRecDepth 100000
set_option maxHeartbeats 2000000
set_option linter.unusedSimpArgs false
set_option linter.unusedVariables false
namespace Go.Aw
open Go Go.Proofs
def zdQ (z i:Nat):List AV:= [.d (.int .i64 ((z:Int) - 1 - i)),.any]
def zba (z:Nat):List (List AV):=(List.range z).map (zdQ z)
def putB (m z i:Nat):Txt:=List.replicate (z - i) 0++putN m i
def putH (m z i:Nat):AHeap:= [(3,.var [.osl 1 1 z 0 z]),(2,.var [.osl 1 1 z 0 z]),(1,.arr 1 (zh (putB m z i))),(0,.var [.d (.int .u64 ((m / 256 ^ i:Nat):Int))])]
def putF (m z i:Nat):AS:=⟨[(1,true,.vp 3 0)],putH m z i,some []⟩
theorem zfm {m z i:Nat} (h:i≤z):(putB m z i).length=z:=by
 rw [putB,List.length_append,List.length_replicate,zP];omega
theorem zjg (z:Nat):(zba z).length=z:=by simp [zba]
theorem zpW {z i:Nat} (h:i<z):(zba z)[i]?=some (zdQ z i):=by simp [zba,h]
theorem zku {z i:Nat} (h:i<z):(zba z).take i++ [zdQ z i]=(zba z).take (i+1):=by
 rw [zaZ (zpW h)]
theorem zpX {m z:Nat} (hz:z≤8) (y:Yo Tryz.prog (zba z)) (v0:Value)
  (hS:∀g M N A w,y.G g M N A w→∃F,∃i,i≤z∧SatH F (putH m z i) w∧Rep w F (putH m z i) (.vp 3 0) v0) {E:Env} {w:World} (hs:SatH E [] w) (hG:y.G (some []) E.M E.N (Own E []) w):
  Calls Tryz.prog 253 (#[]++ #[Value.func (.yield y.yl) #[] #[]]++ #[v0]) w (fun e w'=>∃v E' h' g,e= .returned v∧((∀xs,g=some xs→xs=zba z)∧h'= [])∧SatH E' h' w'∧Evo 100 E [] w E' h' w'∧y.G g E'.M E'.N (Own E' h') w'):=by
 refine zjY (fl:=100) (pre:= []) (caps:= [.raw v0]) (h:= []) (K:=fun g h'=>(∀xs,g=some xs→xs=zba z)∧h'= []) Tryz.func253 rfl Tryz.ntmps253 rfl (by simp) y (fun base=>?_) hs (by simp [Reps]) (by simp [Reps,Rep]) hG
 have hS':∀t:List (Nat×(Bool×AV)),lk t 1=some (true,.raw v0)→∀g M N A w,y.G g M N A w→∃F,∃b: { i:Nat // i≤z },SatH F (putF m z b.1).h w∧∀k g v,lk (putF m z b.1).t k=some (g,v)→g=true∧∃u,lk t k=some (true,.raw u)∧Rep w F (putF m z b.1).h v u:=by
  intro t ht g M N A w hg
  obtain ⟨F,i,hi,h1,h2⟩:=hS g M N A w hg
  refine ⟨F,⟨i,hi⟩,h1,?_⟩
  intro k g v hk
  simp only [putF,lk] at hk
  split at hk
  ·rename_i e
   subst e
   simp only [Option.some.injEq,Prod.mk.injEq] at hk
   obtain ⟨rfl,rfl⟩:=hk
   exact ⟨rfl,v0,ht,h2⟩
  ·cases hk
 have hw0:IntKind.i64.wrap ((z:Int) - 1)=(z:Int) - 1:=zg (by omega) (by omega)
 simp only [List.nil_append,zaP]
 refine zeO noTab (zb _) _ _ (List.take_append_drop 4 _).symm (fun b: { i:Nat // i≤z } =>putF m z b.1) (hS' _ rfl) (fun K hK b=>?_)
 simp only [go_sem,aeq,aeq.aeqF,simprocAttr,putF,putH]
 refine ⟨by rw [zbF,zfm b.2],hK _ ?_⟩
 clear hK K b
 refine zaO ?_
 refine zo (fun q: { j:Nat // j≤z } =>⟨[(0,true,.fn (.yield y.yl) [] []),(1,true,.raw v0),(3,true,.d (.int .i64 ((z:Int) - 1 - q.1)))],[],some ((zba z).take q.1)⟩) (fun q=>z - q.1) ⟨0,Nat.zero_le _⟩ (by simp only [AS.le,leT,leH,zc,AsgK,AV.le,AV.leL,AObj.le,inH,idsT,idsH,AV.ids,AV.idsL,AV.idsR,AObj.ids,lk,hget,go_sem,aeq,aeq.aeqF,simprocAttr,hw0]<;>simp) (fun q=>?_)
 obtain ⟨j,hj⟩:=q
 simp only at hj ⊢
 rcases Nat.lt_or_ge j z with hlt|hge
 ·have hcmp:decide ((0:Int)≤(z:Int) - 1 - j)=true:=decide_eq_true (by omega)
  have hwj:IntKind.i64.wrap ((z:Int) - 1 - j - 1)=(z:Int) - 1 - (j+1:Nat):=by rw [zg (by omega) (by omega)];omega
  have hp:((zba z).take j++ [zdQ z j])<+:zba z:=by rw [zku hlt];exact List.take_prefix _ _
  have hpt:=zku hlt
  simp only [zdQ] at hp hpt
  (have tk:=zb Tryz.prog);repeat' ((fail_if_success refine hds 3 (by rfl) ?_);first|(refine zy (fun i=>decide (i<100)) (by simp only [inH,idsH,hsel,AV.ids,AV.idsL,AV.idsR,AObj.ids,hget,go_sem,aeq,aeq.aeqF,simprocAttr]) ?_;simp only [go_sem,aeq,aeq.aeqF,simprocAttr,hcmp,hsel,keepT];refine zH ?_;simp only [go_sem,aeq,aeq.aeqF,simprocAttr,hcmp])|((first|(refine ya ?_;intro K hK)|refine yb ?_);simp only [go_sem,aeq,aeq.aeqF,simprocAttr,hcmp])|refine zj (fun K hK=>?_)|refine sc ?_|refine zi rfl (fun hc=>?_) (fun hc=>?_)|(refine hK _ ?_;clear hK K)|((first|refine (show AS.le _ _ from ?_)|refine (show leH _ _ from ?_)|refine (show inH _ _ from ?_));simp only [AS.le,leT,leH,zc,AsgK,AV.le,AV.leL,AObj.le,inH,idsT,idsH,AV.ids,AV.idsL,AV.idsR,AObj.ids,lk,hget,go_sem,aeq,aeq.aeqF,simprocAttr,hcmp])|refine fun (r2:Rnd _)=>?_|with_reducible refine And.intro ?_ ?_|exact ‹_<+:_› |omega|assumption|clear hK K)
  refine zeO noTab (zb _) _ _ (List.take_append_drop 6 _).symm (fun b: { i:Nat // i≤z } =>putF m z b.1) (hS' _ rfl) (fun K hK b=>?_)
  have h3:((z:Int) - 1 - j).toNat<z:=by omega
  have hbl:(zh (putB m z b.1)).length=z:=by rw [zbF,zfm b.2]
  simp only [go_sem,aeq,aeq.aeqF,simprocAttr,putF,putH,hbl]
  refine ⟨⟨by omega,by omega⟩,h3,hp,?_,?_⟩
  ·refine hK _ ?_
   clear hK K
   (have tk:=zb Tryz.prog);repeat' (first|(refine zy (fun i=>decide (i<100)) (by simp only [inH,idsH,hsel,AV.ids,AV.idsL,AV.idsR,AObj.ids,hget,go_sem,aeq,aeq.aeqF,simprocAttr]) ?_;simp only [go_sem,aeq,aeq.aeqF,simprocAttr,hsel,keepT];refine zH ?_;simp only [go_sem,aeq,aeq.aeqF,simprocAttr])|((first|(refine ya ?_;intro K hK)|refine yb ?_);simp only [go_sem,aeq,aeq.aeqF,simprocAttr])|refine zj (fun K hK=>?_)|refine sc ?_|refine zi rfl (fun hc=>?_) (fun hc=>?_)|(refine hK _ ?_;clear hK K)|((first|refine (show AS.le _ _ from ?_)|refine (show leH _ _ from ?_)|refine (show inH _ _ from ?_));simp only [AS.le,leT,leH,zc,AsgK,AV.le,AV.leL,AObj.le,inH,idsT,idsH,AV.ids,AV.idsL,AV.idsR,AObj.ids,lk,hget,go_sem,aeq,aeq.aeqF,simprocAttr])|refine fun (r2:Rnd _)=>?_|with_reducible refine And.intro ?_ ?_|exact ‹_<+:_› |omega|assumption|clear hK K)
   exact ⟨⟨j+1,by omega⟩,by simp only [AS.le,leT,leH,zc,AsgK,AV.le,AV.leL,AObj.le,inH,idsT,idsH,AV.ids,AV.idsL,AV.idsR,AObj.ids,lk,hget,go_sem,aeq,aeq.aeqF,simprocAttr,hwj,hpt],by simp;omega⟩
  ·refine hK _ ?_
   clear hK K
   (have tk:=zb Tryz.prog);repeat' (first|(refine zy (fun i=>decide (i<100)) (by simp only [inH,idsH,hsel,AV.ids,AV.idsL,AV.idsR,AObj.ids,hget,go_sem,aeq,aeq.aeqF,simprocAttr]) ?_;simp only [go_sem,aeq,aeq.aeqF,simprocAttr,hsel,keepT];refine zH ?_;simp only [go_sem,aeq,aeq.aeqF,simprocAttr])|((first|(refine ya ?_;intro K hK)|refine yb ?_);simp only [go_sem,aeq,aeq.aeqF,simprocAttr])|refine zj (fun K hK=>?_)|refine sc ?_|refine zi rfl (fun hc=>?_) (fun hc=>?_)|(refine hK _ ?_;clear hK K)|((first|refine (show AS.le _ _ from ?_)|refine (show leH _ _ from ?_)|refine (show inH _ _ from ?_));simp only [AS.le,leT,leH,zc,AsgK,AV.le,AV.leL,AObj.le,inH,idsT,idsH,AV.ids,AV.idsL,AV.idsR,AObj.ids,lk,hget,go_sem,aeq,aeq.aeqF,simprocAttr])|refine fun (r2:Rnd _)=>?_|with_reducible refine And.intro ?_ ?_|exact ‹_<+:_› |omega|assumption|clear hK K)
 ·have hcmp:decide ((0:Int)≤(z:Int) - 1 - j)=false:=decide_eq_false (by omega)
  (have tk:=zb Tryz.prog);repeat' (first|(refine zy (fun i=>decide (i<100)) (by simp only [inH,idsH,hsel,AV.ids,AV.idsL,AV.idsR,AObj.ids,hget,go_sem,aeq,aeq.aeqF,simprocAttr]) ?_;simp only [go_sem,aeq,aeq.aeqF,simprocAttr,hcmp,hsel,keepT];refine zH ?_;simp only [go_sem,aeq,aeq.aeqF,simprocAttr,hcmp])|((first|(refine ya ?_;intro K hK)|refine yb ?_);simp only [go_sem,aeq,aeq.aeqF,simprocAttr,hcmp])|refine zj (fun K hK=>?_)|refine sc ?_|refine zi rfl (fun hc=>?_) (fun hc=>?_)|(refine hK _ ?_;clear hK K)|((first|refine (show AS.le _ _ from ?_)|refine (show leH _ _ from ?_)|refine (show inH _ _ from ?_));simp only [AS.le,leT,leH,zc,AsgK,AV.le,AV.leL,AObj.le,inH,idsT,idsH,AV.ids,AV.idsL,AV.idsR,AObj.ids,lk,hget,go_sem,aeq,aeq.aeqF,simprocAttr,hcmp])|refine fun (r2:Rnd _)=>?_|with_reducible refine And.intro ?_ ?_|exact ‹_<+:_› |omega|assumption|clear hK K)
  rintro xs rfl
  exact List.take_of_length_le (by rw [zjg];omega)
theorem zkv (m z:Nat):putH m z 0= [(3,.var [.osl 1 1 z 0 z]),(2,.var [.osl 1 1 z 0 z]),(1,.arr 1 (List.replicate z [D.int .u8 0])),(0,.var [.d (.int .u64 (m:Int))])]:=by
 rw [putH,putB,zds];simp [putN]
theorem zrX (m z:Nat):ACall Tryz.prog 205 3 [.osl 1 1 z 0 z] [(2,.var [.osl 1 1 z 0 z]),(1,.arr 1 (List.replicate z [D.int .u8 0])),(0,.var [.d (.int .u64 (m:Int))])] (fun r h'=>r= .fn (.func 253) [] [.vp 3 0]∧h'=putH m z 0):=by
 refine bod Tryz.func205 Tryz.ntmps205 (fun base=>?_)
 (repeat' (first|(refine hK _ ?_;clear hK K)|refine wa fun K hK=>?_|refine wb ?_|refine wc ?_ ?_|refine fun (nb:Bool) (hnb:nb=true→_)=>?_|exact we|clear hK K))
 rw [zkv]
theorem zuV (n:Int) (size:Int) (h0:0≤n) (h1:n<18446744073709551616):ACall Tryz.prog 133 0 [.d (.int .u64 n),.d (.int .i64 size)] [] (fun r _=>r= .d (.str (putS8 n size))):=by
 refine fbod Tryz.func133 Tryz.ntmps133 (fun base=>?_)
 by_cases h:size<1∨8<size
 ·have hdec:(decide (size<1)||decide (8<size))=true:=by simpa using h
  (have fx:=hdec;(repeat' (first|(refine hK _ ?_;clear hK K)|refine wa fun K hK=>?_|refine wb ?_|refine wc ?_ ?_|refine wl ?_|refine fun (r2:Rnd _)=>?_|exact ‹_<+:_› |exact we|refine fun (hc:_=(_:Bool))=>?_|clear hK K));all_goals clear fx)
  rw [putS8,if_pos h]
 ·have hdec:(decide (size<1)||decide (8<size))=false:=by simpa using h
  obtain ⟨z,rfl,hz8⟩:∃z:Nat,size=(z:Int)∧z≤8:=⟨size.toNat,by omega,by omega⟩
  (have fx:=(⟨hdec,@Int.toNat_natCast⟩:_∧_);(repeat' (first|(refine hK _ ?_;clear hK K)|refine wa fun K hK=>?_|refine wb ?_|refine wc ?_ ?_|refine wl ?_|refine fun (r2:Rnd _)=>?_|exact ‹_<+:_› |exact we|refine fun (hc:_=(_:Bool))=>?_|clear hK K));all_goals clear fx)
  obtain ⟨m,rfl⟩:∃m:Nat,n=m:=⟨n.toNat,by omega⟩
  refine ((zrX m z).whole (zap rfl) (Nat.zero_le _) (by rintro r h' ⟨_,rfl⟩ i hi;rw [zkv];simp only [hget] at hi ⊢;repeat' split<;>simp_all)).mono ?_
  rintro r h' ⟨rfl,rfl⟩
  refine hK _ ?_
  clear hK K
  refine zaO ?_
  rw [zkv]
  refine aw_le ⟨[(16,true,.fn (.func 253) [] [.vp 3 0]),(5,true,.vp 2 0),(2,true,.vp 0 0)],[(3,.var [.osl 1 1 z 0 z]),(2,.var [.osl 1 1 z 0 z]),(1,.arr 1 (List.replicate z [D.int .u8 0])),(0,.var [.d (.int .u64 (m:Int))])],some []⟩ le0 ?_
  obtain ⟨I,hI⟩:∃I:List (List AV)→AHeap×Option (List (List AV)),I=fun xs=>(putH m z (min xs.length z),some []):=⟨_,rfl⟩
  refine zn4 (q:=3) (items:=zba z) 100 I rfl rfl (zcv Tryz.func253 (by kernel_rfl) rfl) ?_ ?_ (by simp [cxOf]) ?_ ?_ ?_ ?_ ?_ ?_ ?_ ?_ ?_
  ·intro y v0 hy E w hs hG
   refine zpX (m:=m) hz8 y v0 (fun g M N A w hg=>?_) hs hG
   obtain ⟨F,xs,q1,q2⟩:=hy g M N A w hg
   rw [hI] at q1 q2
   exact ⟨F,_,Nat.min_le_right _ _,q1,q2⟩
  ·exact zap rfl
  ·exact ⟨_,rfl⟩
  ·intro xs
   rw [hI]
   exact ⟨_,rfl⟩
  ·rw [hI]
   simp only [List.length_nil,Nat.zero_min,zkv]
   simp only [AS.le,leT,leH,zc,AsgK,AV.le,AV.leL,AObj.le,inH,idsT,idsH,AV.ids,AV.idsL,AV.idsR,AObj.ids,lk,hget,go_sem,aeq,aeq.aeqF,simprocAttr]
  ·rw [hI]
   simp only [List.length_nil,Nat.zero_min,zkv]
   simp only [AS.le,leT,leH,zc,AsgK,AV.le,AV.leL,AObj.le,inH,idsT,idsH,AV.ids,AV.idsL,AV.idsR,AObj.ids,lk,hget,go_sem,aeq,aeq.aeqF,simprocAttr]
  ·rw [hI]
  ·intro x hx
   obtain ⟨i,_,rfl⟩:=List.mem_map.1 hx
   rfl
  ·intro t ht
   simp at ht
   rcases ht with rfl|rfl<;>simp [cxOf]
  ·intro xs x hpre l1 r1
   have hlt:xs.length<z:=by
    have:=hpre.length_le
    rw [List.length_append,zjg] at this
    simp only [List.length_singleton] at this
    omega
   have hx:x=zdQ z xs.length:=by
    obtain ⟨r,hr⟩:=hpre
    have:=congrArg (fun l=>l[xs.length]?) hr
    simp only [zpW hlt] at this
    simpa using this
   subst hx
   have hmin:min xs.length z=xs.length:=by omega
   have hmin':min (xs.length+1) z=xs.length+1:=by omega
   rw [hI]
   simp only [hmin,List.length_append,List.length_singleton,hmin',zdQ]
   generalize xs.length=i at hlt
   clear hmin hmin' hpre hI
   have hbl:(zh (putB m z i)).length=z:=by rw [zbF,zfm (by omega)]
   have hto:((z:Int) - 1 - i).toNat=z - 1 - i:=by omega
   have hlt2:decide ((z:Int) - 1 - i<z)=true:=decide_eq_true (by omega)
   have hle2:decide (0≤(z:Int) - 1 - i)=true:=decide_eq_true (by omega)
   have hby:IntKind.u8.wrap ((m / 256 ^ i:Nat):Int)=((UInt8.ofNat (m / 256 ^ i)).toNat:Int):=u8_of _
   have hsh:ishr .u64 ((m / 256 ^ i:Nat):Int) 8=((m / 256 ^ (i+1):Nat):Int):=by
    rw [show (8:Int)=((8:Nat):Int) from rfl,zs8 _ _ (by omega),Nat.div_div_eq_div_mul,Nat.pow_succ 256 i]
   have hset:(zh (putB m z i)).set (z - 1 - i) (((zh (putB m z i)).getD (z - 1 - i) []).set 0 (D.int .u8 (IntKind.u8.wrap ((m / 256 ^ i:Nat):Int))))=zh (putB m z (i+1)):=by
    rw [zkl (by rw [zfm (by omega)];omega) _ hby]
    congr 1
    have e1:z - i=(z - 1 - i)+1:=by omega
    have e2:z - (i+1)=z - 1 - i:=by omega
    rw [putB,putB,e1,e2,zkm,List.replicate_succ',List.append_assoc,List.set_append,if_neg (by simp)]
    simp
   refine aw_le ⟨[(17,true,.d (.int .i64 ((z:Int) - 1 - i))),(5,true,.vp 2 0),(2,true,.vp 0 0)],[(3,.var [.osl 1 1 z 0 z]),(2,.var [.osl 1 1 z 0 z]),(1,.arr 1 (zh (putB m z i))),(0,.var [.d (.int .u64 ((m / 256 ^ i:Nat):Int))])],some []⟩ (by rw [putH];simp only [AS.le,leT,leH,zc,AsgK,AV.le,AV.leL,AObj.le,inH,idsT,idsH,AV.ids,AV.idsL,AV.idsR,AObj.ids,lk,hget,go_sem,aeq,aeq.aeqF,simprocAttr]) ?_
   (have fx:=(⟨hbl,hto,hset,hsh⟩:_∧_∧_∧_);repeat' (first|(refine hK _ ?_;clear hK K)|refine wa fun K hK=>?_|refine wb ?_|refine wc ?_ ?_|refine wl ?_|refine fun (r2:Rnd _)=>?_|exact ‹_<+:_› |exact we|refine fun (hc:_=(_:Bool))=>?_|clear hK K))
   ·rw [putH];simp only [AS.le,leT,leH,zc,AsgK,AV.le,AV.leL,AObj.le,inH,idsT,idsH,AV.ids,AV.idsL,AV.idsR,AObj.ids,lk,hget,go_sem,aeq,aeq.aeqF,simprocAttr]
   ·rw [putH];simp only [AS.le,leT,leH,zc,AsgK,AV.le,AV.leL,AObj.le,inH,idsT,idsH,AV.ids,AV.idsL,AV.idsR,AObj.ids,lk,hget,go_sem,aeq,aeq.aeqF,simprocAttr]
  ·have hmin:min (zba z).length z=z:=by rw [zjg];omega
   rw [hI]
   simp only [hmin]
   have hbl:(zh (putB m z z)).length=z:=by rw [zbF,zfm (by omega)]
   have hput:putB m z z=putN m z:=by rw [putB,Nat.sub_self];rfl
   have hbl2:(z=(zh (putB m z z)).length)=True:=eq_true hbl.symm
   have hbl3:List.take z (zh (putB m z z))=zh (putB m z z):=List.take_of_length_le (by omega)
   (have tk:=zb Tryz.prog);repeat' (first|((first|(refine sa ?_;intro K hK)|refine sb ?_);simp only [go_sem,aeq,aeq.aeqF,simprocAttr,putH,hbl,Tryz.results133])|refine zj (fun K hK=>?_)|refine sc ?_|refine zi rfl (fun hc=>?_) (fun hc=>?_)|(refine hK _ ?_;clear hK K)|((first|refine (show AS.le _ _ from ?_)|refine (show leH _ _ from ?_)|refine (show inH _ _ from ?_));simp only [AS.le,leT,leH,zc,AsgK,AV.le,AV.leL,AObj.le,inH,idsT,idsH,AV.ids,AV.idsL,AV.idsR,AObj.ids,lk,hget,go_sem,aeq,aeq.aeqF,simprocAttr,putH,hbl])|refine fun (r2:Rnd _)=>?_|with_reducible refine And.intro ?_ ?_|exact ‹_<+:_› |omega|assumption|refine fun (hg:(_:Bool)=(_:Bool))=>?_|clear hK K)
   ·rw [hbl3];exact za1 _
   ·have hn:(z:Int) - 1=z - 1:=rfl
    rw [hbl3,zan,hput,putS8,if_neg h]
    rfl
@[go_sem] noncomputable def zce:Ent Tryz.prog 133:= .ofL (consL (intT .u64) (consL (intT .i64) nilL)) (fun (n,size,_)=>(0≤n)∧(n<18446744073709551616)) (fun (n,size,_)=> .d (.str (putS8 n size))) (fun (n,size,_) hp=>⟨rfl,zuV n size hp.1 hp.2⟩)
open Go Go.Proofs
def zdu (g h:Int):Bool:=decide (1≤g)&&decide (g≤64)&&decide (8≤h)&&decide (h≤256)
def zhk (g h:Int):Int:=if zdu g h then 96+2*h else 0
theorem geo_iff {g h:Int} :zdu g h=true↔1≤g∧g≤64∧8≤h∧h≤256:=by
 simp [zdu,and_assoc]
theorem ztC (k:Int) (hp:0≤k∧k≤1000000):AC 140 [.d (.int .i64 k)] (.d (.int .i64 (96+2*k))):=by
 obtain ⟨h0,h1⟩:=hp
 refine bod Tryz.func140 Tryz.ntmps140 (fun base=>?_)
 have hm:IntKind.i64.wrap (2*k)=2*k:=zg (by omega) (by omega)
 have hm2:IntKind.i64.wrap (96+2*k)=96+2*k:=zg (by omega) (by omega)
 (have fx:=(⟨hm,hm2⟩:_∧_);repeat' (first|(refine hK _ ?_;clear hK K)|refine wa fun K hK=>?_|refine wb ?_|refine wc ?_ ?_|exact we|clear hK K))
@[go_sem] noncomputable def zQ:Ent Tryz.prog 140:= .m1 (intT .i64) ztC
theorem at_ok (k:Int) (hp:0≤k∧k≤1000000):AC 221 [.d (.int .i64 k)] (.d (.int .i64 (96+2*k))):=by
 obtain ⟨h0,h1⟩:=hp
 refine bod Tryz.func221 Tryz.ntmps221 (fun base=>?_)
 have hm:IntKind.i64.wrap (2*k)=2*k:=zg (by omega) (by omega)
 have hm2:IntKind.i64.wrap (96+2*k)=96+2*k:=zg (by omega) (by omega)
 (have fx:=(⟨hm,hm2⟩:_∧_);repeat' (first|(refine hK _ ?_;clear hK K)|refine wa fun K hK=>?_|refine wb ?_|refine wc ?_ ?_|exact we|clear hK K))
@[go_sem] noncomputable def zbC:Ent Tryz.prog 221:= .m1 (intT .i64) at_ok
theorem zrN (k:Int) (hp:0≤k∧k≤1000000):AC 117 [.d (.int .i64 k)] (.tup [.d (.int .i64 (87+k / 32)),.d (.int .i64 (2*(k % 32)))]):=by
 obtain ⟨h0,h1⟩:=hp
 refine bod Tryz.func117 Tryz.ntmps117 (fun base=>?_)
 have hm:IntKind.i64.wrap (k.tdiv 32)=k / 32:=by rw [Int.tdiv_eq_ediv_of_nonneg h0,zg (by omega) (by omega)]
 have hm2:IntKind.i64.wrap (87+k / 32)=87+k / 32:=zg (by omega) (by omega)
 have hm3:k.tmod 32=k % 32:=Int.tmod_eq_emod_of_nonneg h0
 have hm4:IntKind.i64.wrap (2*(k % 32))=2*(k % 32):=zg (by omega) (by omega)
 (have fx:=(⟨hm,hm2,hm3,hm4⟩:_∧_∧_∧_);repeat' (first|(refine hK _ ?_;clear hK K)|refine wa fun K hK=>?_|refine wb ?_|refine wc ?_ ?_|exact we|clear hK K))
@[go_sem] noncomputable def zcD:Ent Tryz.prog 117:= .m1 (intT .i64) zrN
theorem ztD {k:Int} (h0:0≤k):ishr .i64 k 5=k / 32:=by
 unfold ishr
 rw [show min ((5:Int).toNat) IntKind.i64.bits=5 from rfl,Int.fdiv_eq_ediv_of_nonneg _ (by decide)]
 rfl
theorem ztE {k:Int} (h0:0≤k) (h1:k≤1000000):ibits .and .i64 k 31=k % 32:=by
 obtain ⟨m,rfl⟩:∃m:Nat,k=m:=⟨k.toNat,by omega⟩
 show IntKind.i64.wrap ((BitVec.ofInt 64 (m:Int)&&& BitVec.ofInt 64 31).toNat:Int)=_
 rw [BitVec.ofInt_natCast,show BitVec.ofInt 64 31=BitVec.ofNat 64 31 from rfl,BitVec.toNat_and,BitVec.toNat_ofNat,BitVec.toNat_ofNat,Nat.mod_eq_of_lt (by omega),Nat.mod_eq_of_lt (by omega),show (31:Nat)=2 ^ 5 - 1 from rfl,Nat.and_two_pow_sub_one_eq_mod,zg (by omega) (by omega)]
 omega
theorem zuU (k:Int) (hp:0≤k∧k≤1000000):AC 131 [.d (.int .i64 k)] (.tup [.d (.int .i64 (87+k / 32)),.d (.int .i64 (2*(k % 32)))]):=by
 obtain ⟨h0,h1⟩:=hp
 refine bod Tryz.func131 Tryz.ntmps131 (fun base=>?_)
 have hm:=ztD h0
 have hm2:IntKind.i64.wrap (87+k / 32)=87+k / 32:=zg (by omega) (by omega)
 have hm3:=ztE h0 h1
 have hm4:IntKind.i64.wrap (k % 32*2)=2*(k % 32):=by rw [zg (by omega) (by omega)];omega
 (have fx:=(⟨hm,hm2,hm3,hm4⟩:_∧_∧_∧_);repeat' (first|(refine hK _ ?_;clear hK K)|refine wa fun K hK=>?_|refine wb ?_|refine wc ?_ ?_|exact we|clear hK K))
@[go_sem] noncomputable def zey:Ent Tryz.prog 131:= .m1 (intT .i64) zuU
theorem zpQ:ACall Tryz.prog 246 0 [] [] (fun r _=>r= .tup [.d (.int .i64 6),.d (.int .i64 81)]):=by
 refine bod Tryz.func246 Tryz.ntmps246 (fun base=>?_)
 (repeat' (first|(refine hK _ ?_;clear hK K)|refine wa fun K hK=>?_|refine wb ?_|refine wc ?_ ?_|exact we|clear hK K))
@[go_sem] noncomputable def zlK:Ent Tryz.prog 246:= .ofL nilL (fun _=>True) (fun _=> .tup [.d (.int .i64 6),.d (.int .i64 81)]) (fun _ hp=>⟨rfl,zpQ⟩)
theorem zrO (g:Int) (m:Int):ACall Tryz.prog 107 0 [.agg [.d (.int .i64 g),.d (.int .i64 m)]] [] (fun r _=>r= .d (.bool (zdu g m))):=by
 refine bod Tryz.func107 Tryz.ntmps107 (fun base=>?_)
 (repeat' (first|(refine hK _ ?_;clear hK K)|refine wa fun K hK=>?_|refine wb ?_|refine wc ?_ ?_|exact we|refine fun (hc:_=(_:Bool))=>?_|clear hK K))
 rfl
@[go_sem] noncomputable def zcE:Ent Tryz.prog 107:= .ofL (consL (aggT (consL (intT .i64) (consL (intT .i64) nilL)) (fun p=>p) (fun p=>p) (fun _=>rfl)) nilL) (fun ((g,m,_),_)=>True) (fun ((g,m,_),_)=> .d (.bool (zdu g m))) (fun ((g,m,_),_) hp=>⟨rfl,zrO g m⟩)
theorem zrP (g:Int) (m:Int):ACall Tryz.prog 109 0 [.agg [.d (.int .i64 g),.d (.int .i64 m)]] [] (fun r _=>r= .d (.int .i64 (zhk g m))):=by
 refine bod Tryz.func109 Tryz.ntmps109 (fun base=>?_)
 (have tk:=za zcE <| zb Tryz.prog;repeat' (first|(refine hK _ ?_;clear hK K)|refine wa fun K hK=>?_|refine wb ?_|refine wc ?_ ?_|exact we|refine fun (hc:_=(_:Bool))=>?_|clear hK K))
 ·have hc:zdu g m=false:=by simpa using hc
  rw [zhk,if_neg (by rw [hc];exact Bool.false_ne_true)]
 ·have hc:zdu g m=true:=by simpa using hc
  have hg:=geo_iff.1 hc
  rw [zhk,if_pos hc,zg (n:=2*m) (by omega) (by omega),zg (by omega) (by omega)]
@[go_sem] noncomputable def zez:Ent Tryz.prog 109:= .ofL (consL (aggT (consL (intT .i64) (consL (intT .i64) nilL)) (fun p=>p) (fun p=>p) (fun _=>rfl)) nilL) (fun ((g,m,_),_)=>True) (fun ((g,m,_),_)=> .d (.int .i64 (zhk g m))) (fun ((g,m,_),_) hp=>⟨rfl,zrP g m⟩)
open Go Go.Proofs
structure Plan where
 targets:List Int
 texts:List Txt
 deriving DecidableEq
def planA (p:Plan):AV:= .agg [.d (.sl 1 (p.targets.map intD)),.d (.sl 1 (p.texts.map strD))]
def planC (p:Plan):List AV:= [.d (.sl 1 (p.targets.map intD)),.d (.sl 1 (p.texts.map strD))]
attribute [go_sem] planA planC
theorem zrQ (p:Plan):Plan.mk p.targets p.texts=p:=rfl
noncomputable def zw:PT Plan:=aggT (consL (slT 1 intD zcy) (consL (slT 1 strD zfh) nilL)) (fun p=>⟨p.1,p.2.1⟩) (fun x=>(x.targets,x.texts,())) (fun _=>rfl)
attribute [go_sem] zw
noncomputable def zpR:PT Plan:=dpT (consL (slT 1 intD zcy) (consL (slT 1 strD zfh) nilL)) (fun p=>⟨p.1,p.2.1⟩) (fun x=>(x.targets,x.texts,())) (fun _=>rfl)
attribute [go_sem] zpR
attribute [go_sem] zrQ
structure PlanOk (p:Plan):Prop where
 targets:p.targets.length≤9223372036854775807
 texts:p.texts.length≤9223372036854775807
def secOk (at_:Int):Bool:=decide (0≤at_)&&decide (at_<1024)
def pfind (l:List Int) (at_:Int):Int:=idxP (fun x=>x==at_) l 0
def pfitL:List Int→List Int→List Txt→Bool
 |_,[],_=>true
 |seen,t::r,s::q=>secOk t&& !seen.contains t&&((s.length:Int)==64)&&pfitL (seen++ [t]) r q
 |_,_::_,[]=>true
def pfit (p:Plan):Bool:=decide (p.targets.length=p.texts.length)&&decide (p.targets.length≤24)&&pfitL [] p.targets p.texts
def plook (d:Disk) (p:Plan) (at_:Int):Txt×Int:=
 if 0≤pfind p.targets at_ then (p.texts.getD (pfind p.targets at_).toNat [],0) else dread d at_
def pset (p:Plan) (at_:Int) (s:Txt):Plan×Int:=
 if !secOk at_ then (p,10) else if (s.length:Int)≠64 then (p,11)
 else if 0≤pfind p.targets at_ then (⟨p.targets,p.texts.set (pfind p.targets at_).toNat s⟩,0)
 else if 24≤(p.targets.length:Int) then (p,16) else (⟨p.targets++ [at_],p.texts++ [s]⟩,0)
def zeh (d:Disk) (p:Plan) (at_:Int) (off:Int) (s:Txt):Plan×Int:=
 if (plook d p at_).2≠0 then (p,(plook d p at_).2)
 else if (overS (plook d p at_).1 off s).2≠0 then (p,(overS (plook d p at_).1 off s).2)
 else pset p at_ (overS (plook d p at_).1 off s).1
def layL (d:Disk):List (Int×Txt)→Disk×Int
 | []=>(d,0)
 |q::r=>if (zZ d q.1 q.2).2≠0 then zZ d q.1 q.2 else layL (zZ d q.1 q.2).1 r
def play (d:Disk) (p:Plan):Disk×Int:=layL d (p.targets.zip p.texts)
theorem zhl {d:Disk} (h:DiskOk d) (at_:Int) (s:Txt):DiskOk (zZ d at_ s).1:=by
 unfold zZ
 repeat' split
 all_goals first|exact h|skip
 ·exact ⟨h.data,h.cache,h.bad,h.fuse0,h.fuse1⟩
 ·rename_i h6
  exact zm8 ⟨h.data,by simp only [List.length_append,List.length_singleton];omega,h.bad,h.fuse0,h.fuse1⟩
theorem znd {d:Disk} {at_:Int} (hf:d.cache.all (putOk d)=true) (ht:there d at_=true):(sees d at_).length=64:=by
 obtain ⟨h0,h1⟩:=there_iff.1 ht
 unfold sees
 split
 ·rename_i q hq
  have hm:=List.mem_of_find?_eq_some hq
  have:=List.all_eq_true.1 hf q (List.mem_reverse.1 hm)
  rw [putOk,Bool.and_eq_true] at this
  have:=eq_of_beq this.2
  omega
 ·rw [List.length_take,List.length_drop];omega
theorem zdv {d:Disk} {at_:Int} (hf:d.cache.all (putOk d)=true):(dread d at_).1.length≤64:=by
 unfold dread
 repeat' split
 all_goals first|(simp;done)|skip
 rw [znd hf (by simp_all)]
 omega
theorem zkp:∀ (t:List Int) (s:List Txt) (seen:List Int),pfitL seen t s=true→t.length=s.length→∀x∈s,x.length=64
 | [],s,seen,_,hl=>by
  have:s= []:=List.length_eq_zero_iff.1 hl.symm
  subst this
  simp
 |t::r,[],seen,_,hl=>by simp at hl
 |t::r,s::q,seen,h,hl=>by
  rw [pfitL] at h
  simp only [Bool.and_eq_true] at h
  intro x hx
  rcases List.mem_cons.1 hx with rfl|hx
  ·have:=eq_of_beq h.1.2;omega
  ·exact zkp r q _ h.2 (by simpa using hl) x hx
theorem zaz {p:Plan} (h:pfit p=true):p.targets.length=p.texts.length∧p.targets.length≤24∧∀x∈p.texts,x.length=64:=by
 simp only [pfit,Bool.and_eq_true,decide_eq_true_eq] at h
 exact ⟨h.1.1,h.1.2,zkp _ _ _ h.2 h.1.1⟩
theorem zrR {l:List Txt} {n k:Nat} (h:∀x∈l,x.length=n):(l.getD k []).length≤n:=by
 rw [List.getD_eq_getElem?_getD]
 rcases hk:l[k]? with _|x
 ·simp
 ·rw [Option.getD_some,h x (List.mem_of_getElem? hk)]
  exact Nat.le_refl _
theorem zkq {d:Disk} {p:Plan} {at_:Int} (hf:d.cache.all (putOk d)=true) (hp:pfit p=true):(plook d p at_).1.length≤64:=by
 unfold plook
 split
 ·exact zrR (zaz hp).2.2
 ·exact zdv hf
theorem zdw {α:Type} (p:α→Bool):∀ (l:List α) (k:Nat),idxP p l k= -1∨((k:Int)≤idxP p l k∧idxP p l k<((k+l.length:Nat):Int))
 | [],k=> .inl rfl
 | q::l,k=>by
  rw [idxP]
  split
  ·exact .inr ⟨Int.le_refl _,by simp;omega⟩
  ·rcases zdw p l (k+1) with h|⟨h1,h2⟩
   ·exact .inl h
   ·exact .inr ⟨by omega,by simp only [List.length_cons];omega⟩
theorem zb3 (l:List Int) (at_:Int):pfind l at_= -1∨∃k:Nat,pfind l at_=k∧k<l.length:=by
 rcases zdw (fun x=>x==at_) l 0 with h|⟨h1,h2⟩
 ·exact .inl h
 ·exact .inr ⟨(pfind l at_).toNat,by unfold pfind;omega,by unfold pfind;omega⟩
theorem zlL (at_:Int) (_:True):AC 181 [.d (.int .i64 at_)] (.d (.bool (secOk at_))):=by
 refine bod Tryz.func181 Tryz.ntmps181 (fun base=>?_)
 (repeat' (first|(refine hK _ ?_;clear hK K)|refine wa fun K hK=>?_|refine wb ?_|refine wc ?_ ?_|exact we|refine fun (hc:_=(_:Bool))=>?_|clear hK K))
 rfl
@[go_sem] noncomputable def zdO:Ent Tryz.prog 181:= .m1 (intT .i64) zlL
theorem zpS (p:Plan) (at_:Int) (hp:PlanOk p):AC 136 [planA p,.d (.int .i64 at_)] (.d (.int .i64 (pfind p.targets at_))):=by
 refine bod Tryz.func136 Tryz.ntmps136 (fun base=>?_)
 (repeat' (first|(refine hK _ ?_;clear hK K)|refine wa fun K hK=>?_|refine wb ?_|refine wc ?_ ?_|exact we|refine fun (hc:_=(_:Bool))=>?_|clear hK K))
 have ht:=hp.targets
 refine zo (fun q:Idst (fun x=>x==at_) p.targets=>⟨[(1,true,.d (.int .i64 at_)),(2,true,.vp 0 0),(5,true,.d (.int .i64 q.1))],[(0,.var [.d (.sl 1 (p.targets.map intD)),.d (.sl 1 (p.texts.map strD))])],some []⟩) (fun q=>p.targets.length - q.1) ⟨0,Nat.zero_le _,rfl⟩ le1 (fun q=>?_)
 obtain ⟨i,hi,hf⟩:=q
 simp only at hi hf ⊢
 rcases zT intD p.targets i hi with ⟨m,hq,hlt,hcmp,hrow,hdr,htk⟩|⟨hend,hcmp⟩
 ·simp only [intD] at hrow
  have hwi:=zp (i:=i) (by omega)
  (have fx:=(⟨hcmp,hrow⟩:_∧_);repeat' (first|(refine hK _ ?_;clear hK K)|refine wa fun K hK=>?_|refine wb ?_|refine wc ?_ ?_|exact we|refine fun (hc:_=(_:Bool))=>?_|clear hK K))
  ·rw [pfind,hf,hdr,idxP,if_pos hc]
  ·exact ⟨⟨i+1,by omega,by rw [hf,hdr,idxP,if_neg (by rw [hc];exact Bool.false_ne_true)]⟩,lew,by simp;omega⟩
 ·(have fx:=hcmp;repeat' (first|(refine hK _ ?_;clear hK K)|refine wa fun K hK=>?_|refine wb ?_|refine wc ?_ ?_|exact we|refine fun (hc:_=(_:Bool))=>?_|clear hK K))
  rw [pfind,hf,hend,List.drop_length]
  rfl
@[go_sem] noncomputable def zcU:Ent Tryz.prog 136:= .m2 zw (intT .i64) zpS
theorem zpT (d:Disk) (p:Plan) (at_:Int) (hp:DiskOk d∧PlanOk p∧p.targets.length=p.texts.length):AC 59 [diskA d,planA p,.d (.int .i64 at_)] (.tup [.d (.str (plook d p at_).1),.d (.int .i64 (plook d p at_).2)]):=by
 obtain ⟨hd,hp,hl⟩:=hp
 refine bod Tryz.func59 Tryz.ntmps59 (fun base=>?_)
 rcases zb3 p.targets at_ with hk|⟨k,hk,hkl⟩
 ·(have tk:=za zcU <| za zbB <| zb Tryz.prog;have fx:=hk;repeat' (first|(refine hK _ ?_;clear hK K)|refine wa fun K hK=>?_|refine wb ?_|refine wc ?_ ?_|exact we|refine fun (hc:_=(_:Bool))=>?_|clear hK K))
  rw [plook,hk,if_neg (by omega)]
 ·obtain ⟨s,hq⟩:=zaj (l:=p.texts) (i:=k) (by omega)
  have hrow:=za8 (g:=strD) hq
  simp only [strD] at hrow
  have h1:decide ((0:Int)≤(k:Int))=true:=decide_eq_true (by omega)
  have h2:decide ((k:Int)<(p.texts.length:Int))=true:=decide_eq_true (by omega)
  (have tk:=za zcU <| za zbB <| zb Tryz.prog;have fx:=(⟨hk,hrow,@Int.toNat_natCast,h1,h2⟩:_∧_∧_∧_∧_);repeat' (first|(refine hK _ ?_;clear hK K)|refine wa fun K hK=>?_|refine wb ?_|refine wc ?_ ?_|exact we|refine fun (hc:_=(_:Bool))=>?_|clear hK K))
  rw [plook,hk,if_pos (by omega),Int.toNat_natCast,List.getD_eq_getElem?_getD,hq]
  rfl
@[go_sem] noncomputable def zx:Ent Tryz.prog 59:= .m3 zq zw (intT .i64) zpT
theorem zeA {α:Type} (g:α→List D) (l:List α) (x:α) (r:List D) (hr:r=g x) {k:Nat} :(if l.length+1=(l.map g++ [r]).length then AV.d (D.sl k (List.take (l.length+1) (l.map g++ [r]))) else AV.any)=AV.d (.sl k ((l++ [x]).map g)):=by
 have h1:l.length+1=(l.map g++ [r]).length:=by simp
 rw [if_pos h1,List.take_of_length_le (Nat.le_of_eq h1.symm),hr,List.map_append]
 rfl
theorem zne {k n:Nat} {X:List (List D)} (h:X.length=n):(if n=X.length then AV.d (D.sl k (List.take n X)) else AV.any)=AV.d (.sl k X):=by
 rw [if_pos h.symm,List.take_of_length_le (Nat.le_of_eq h)]
theorem zpU {l:List Txt} {k:Nat} {s:Txt} (hk:k<l.length):(l.map strD).set k (((l.map strD).getD k []).set 0 (D.str s))=(l.set k s).map strD:=by
 obtain ⟨x,hq⟩:=zaj hk
 rw [za8 (g:=strD) hq,List.map_set]
 rfl
theorem zrS (p:Plan) (at_:Int) (s:Txt) (hp:PlanOk p∧p.targets.length=p.texts.length∧p.targets.length≤24):AC 113 [planA p,.d (.int .i64 at_),.d (.str s)] (.tup [planA (pset p at_ s).1,.d (.int .i64 (pset p at_ s).2)]):=by
 obtain ⟨hp,hl,h24⟩:=hp
 refine fbod Tryz.func113 Tryz.ntmps113 (fun base=>?_)
 rcases zb3 p.targets at_ with hk|⟨k,hk,hkl⟩
 ·(have tk:=za zdO <| za zcU <| zb Tryz.prog;have fx:=hk;(repeat' (first|(refine hK _ ?_;clear hK K)|refine wa fun K hK=>?_|refine wb ?_|refine wc ?_ ?_|refine fun (nb:Bool) (hnb:nb=true→_)=>?_|exact we|refine fun (hc:_=(_:Bool))=>?_|clear hK K));all_goals clear fx)
  all_goals first|(simp_all [pset];done)|skip
  rw [zeA intD p.targets at_ [D.int .i64 at_] rfl,zeA strD p.texts s [D.str s] rfl]
  by_cases h6:24≤(p.targets.length:Int)
  ·exfalso;simp_all;omega
  ·simp_all [pset]
   simp only [if_neg (show ¬(24:Int)≤p.texts.length by omega)]
   simp
 ·have h1:decide ((0:Int)≤(k:Int))=true:=decide_eq_true (by omega)
  (have tk:=za zdO <| za zcU <| zb Tryz.prog;have fx:=(⟨hk,@Int.toNat_natCast,h1⟩:_∧_∧_);(repeat' (first|(refine hK _ ?_;clear hK K)|refine wa fun K hK=>?_|refine wb ?_|refine wc ?_ ?_|refine fun (nb:Bool) (hnb:nb=true→_)=>?_|exact we|refine fun (hc:_=(_:Bool))=>?_|clear hK K));all_goals clear fx)
  all_goals first|(simp_all [pset];done)|skip
  rw [zpU (by omega),zne (by simp)]
  simp_all [pset]
@[go_sem] noncomputable def zaN:Ent Tryz.prog 113:= .m3 zw (intT .i64) strT zrS
theorem zn2 (d:Disk) (p:Plan) (at_ off:Int) (s:Txt) (hp:DiskOk d∧d.cache.all (putOk d)=true∧pfit p=true∧s.length≤9223372036854775807):AC 118 [diskA d,planA p,.d (.int .i64 at_),.d (.int .i64 off),.d (.str s)] (.tup [planA (zeh d p at_ off s).1,.d (.int .i64 (zeh d p at_ off s).2)]):=by
 obtain ⟨hd,hf,hp,hs⟩:=hp
 refine fbod Tryz.func118 Tryz.ntmps118 (fun base=>?_)
 obtain ⟨hl,h24,h64⟩:=zaz hp
 have hpo:PlanOk p:=⟨by omega,by omega⟩
 have hb:=zkq (at_:=at_) hf hp
 (have tk:=za zx <| za zY <| za zaN <| zb Tryz.prog;repeat' (first|(refine hK _ ?_;clear hK K)|refine wa fun K hK=>?_|refine wb ?_|refine wc ?_ ?_|exact we|refine fun (hc:_=(_:Bool))=>?_|clear hK K))
 all_goals first|(simp_all [zeh];done)|skip
@[go_sem] noncomputable def zao:Ent Tryz.prog 118:= .m5 zq zw (intT .i64) (intT .i64) strT zn2
open Go Go.Proofs
theorem zpV {l:List Int} {i:Nat} {t:Int} :∀ {k:Nat},l[i]?=some t→(idxP (fun x=>x==t) l k==((k+i:Nat):Int))= !(l.take i).contains t:=by
 induction l generalizing i with
 |nil=>intro k h;simp at h
 | cons a l ih=>
  intro k h
  cases i with
  |zero=>
   simp only [List.getElem?_cons_zero,Option.some.injEq] at h
   subst h
   rw [idxP,if_pos (by simp)]
   simp
  | succ i=>
   rw [List.getElem?_cons_succ] at h
   rw [idxP,List.take_succ_cons,List.contains_cons]
   by_cases ha:a=t
   ·rw [if_pos (by simpa using ha),ha,beq_self_eq_true,Bool.true_or]
    rw [beq_eq_false_iff_ne.2 (by omega)];rfl
   ·rw [if_neg (by simpa using ha),show k+(i+1)=k+1+i from by omega,ih h,beq_eq_false_iff_ne.2 (Ne.symm ha),Bool.false_or]
theorem zrT (p:Plan) (hp:PlanOk p):AC 244 [planA p] (.d (.bool (pfit p))):=by
 refine bod Tryz.func244 Tryz.ntmps244 (fun base=>?_)
 have h1:=hp.targets
 have h2:=hp.texts
 (repeat' (first|(refine hK _ ?_;clear hK K)|refine wa fun K hK=>?_|refine wb ?_|refine wc ?_ ?_|exact we|refine fun (hc:_=(_:Bool))=>?_|clear hK K))
 ·have:pfit p=false:=by
   simp only [Bool.or_eq_true,bne_iff_ne,decide_eq_true_eq] at hc
   rw [pfit]
   rcases hc with hc|hc
   ·rw [decide_eq_false (p:=p.targets.length=p.texts.length) (by omega)];simp
   ·rw [decide_eq_false (p:=p.targets.length≤24) (by omega)];simp
  rw [this]
 obtain ⟨hl,h24⟩:p.targets.length=p.texts.length∧p.targets.length≤24:=by
  simp only [Bool.or_eq_false_iff,bne_eq_false_iff_eq,decide_eq_false_iff_not] at hc
  omega
 have hfit:pfit p=pfitL [] p.targets p.texts:=by
  rw [pfit,decide_eq_true hl,decide_eq_true h24];simp
 refine zo (fun q: { i:Nat // i≤p.targets.length∧pfitL [] p.targets p.texts=pfitL (p.targets.take i) (p.targets.drop i) (p.texts.drop i) } =>⟨[(1,true,.vp 0 0),(3,true,.d (.int .i64 q.1))],[(0,.var [.d (.sl 1 (p.targets.map intD)),.d (.sl 1 (p.texts.map strD))])],some []⟩) (fun q=>p.targets.length - q.1) ⟨0,Nat.zero_le _,rfl⟩ le1 (fun q=>?_)
 obtain ⟨i,hi,hf⟩:=q
 simp only at hi hf ⊢
 rcases zT intD p.targets i hi with ⟨m,hq,hlt,hcmp,hrow,hdr,htk⟩|⟨hend,hcmp⟩
 ·obtain ⟨s,hq'⟩:=zaj (l:=p.texts) (i:=i) (by omega)
  have hrow':=za8 (g:=strD) hq'
  simp only [intD] at hrow
  simp only [strD] at hrow'
  have hwi:=zp (i:=i) (by omega)
  have hid:=zpV (k:=0) hq
  rw [Nat.zero_add] at hid
  rw [hdr,zcq hq',pfitL] at hf
  have hall:(!secOk m||pfind p.targets m !=(i:Int)||((s.length:Int) !=64))= !(secOk m&& !(p.targets.take i).contains m&&((s.length:Int)==64)):=by
   rw [← hid,Bool.not_and,Bool.not_and];rfl
  (have tk:=za zdO <| za zcU <| zb Tryz.prog;have fx:=(⟨hcmp,hrow,hrow'⟩:_∧_∧_);repeat' (first|(refine hK _ ?_;clear hK K)|refine wa fun K hK=>?_|refine wb ?_|refine wc ?_ ?_|exact we|refine fun (hc:_=(_:Bool))=>?_|clear hK K))
  ·rw [hall] at hc
   simp only [Bool.not_eq_true'] at hc
   rw [hfit,hf,hc,Bool.false_and]
  ·rw [hall] at hc
   simp only [Bool.not_eq_false'] at hc
   rw [hc,Bool.true_and,← htk] at hf
   exact ⟨⟨i+1,by omega,hf⟩,lew,by simp;omega⟩
 ·(have tk:=zb Tryz.prog;have fx:=hcmp;repeat' (first|(refine hK _ ?_;clear hK K)|refine wa fun K hK=>?_|refine wb ?_|refine wc ?_ ?_|exact we|refine fun (hc:_=(_:Bool))=>?_|clear hK K))
  rw [hfit,hf,hend,List.drop_length]
  rfl
@[go_sem] noncomputable def zcF:Ent Tryz.prog 244:= .m1 zw zrT
theorem zrU (d:Disk) (p:Plan) (hp:DiskOk d∧PlanOk p∧p.targets.length=p.texts.length):AC 114 [diskA d,planA p] (.tup [diskA (play d p).1,.d (.int .i64 (play d p).2)]):=by
 obtain ⟨hd,hp,hl⟩:=hp
 refine fbod Tryz.func114 Tryz.ntmps114 (fun base=>?_)
 have h1:=hp.targets
 have h2:=hp.texts
 (repeat' (first|(refine hK _ ?_;clear hK K)|refine wa fun K hK=>?_|refine wb ?_|refine wc ?_ ?_|exact we|refine fun (hc:_=(_:Bool))=>?_|clear hK K))
 refine zo (fun q: { q:Nat×Disk // q.1≤p.targets.length∧DiskOk q.2∧play d p=layL q.2 ((p.targets.zip p.texts).drop q.1) } =>⟨[(2,true,.vp 0 0),(3,true,.vp 1 0),(4,true,.vp 2 0),(6,true,.d (.int .i64 q.1.1))],[(2,.var [.d (.str []),.nils 2,.d (.int .i64 0),.d (.bool false),.nils 1]),(1,.var [.d (.sl 1 (p.targets.map intD)),.d (.sl 1 (p.texts.map strD))]),(0,(.var [.d (.str q.1.2.data),.d (.sl 2 (q.1.2.cache.map putD)),.d (.int .i64 q.1.2.fuse),.d (.bool q.1.2.off),.d (.sl 1 (q.1.2.bad.map intD))]))],some []⟩) (fun q=>p.targets.length - q.1.1) ⟨(0,d),Nat.zero_le _,hd,rfl⟩ le1 (fun q=>?_)
 obtain ⟨⟨i,x⟩,hi,hx,hf⟩:=q
 simp only at hi hx hf ⊢
 rcases zT intD p.targets i hi with ⟨m,hq,hlt,hcmp,hrow,hdr,htk⟩|⟨hend,hcmp⟩
 ·obtain ⟨s,hq'⟩:=zaj (l:=p.texts) (i:=i) (by omega)
  have hrow':=za8 (g:=strD) hq'
  simp only [intD] at hrow
  simp only [strD] at hrow'
  have hwi:=zp (i:=i) (by omega)
  have hcmp':decide ((i:Int)<(p.texts.length:Int))=true:=by rw [← hl];exact hcmp
  have hz:(p.targets.zip p.texts)[i]?=some (m,s):=List.getElem?_zip_eq_some.2 ⟨hq,hq'⟩
  rw [zcq hz,layL] at hf
  have hxo:=zhl hx m s
  (have tk:=za zC <| zb Tryz.prog;have fx:=(⟨hcmp,hcmp',hrow,hrow'⟩:_∧_∧_∧_);repeat' (first|(refine hK _ ?_;clear hK K)|refine wa fun K hK=>?_|refine wb ?_|refine wc ?_ ?_|exact we|refine fun (hc:_=(_:Bool))=>?_|clear hK K))
  ·have hc:(zZ x m s).2≠0:=by simpa using hc
   rw [hf,if_pos hc]
  ·have hc:¬(zZ x m s).2≠0:=by simpa using hc
   rw [if_neg hc] at hf
   exact ⟨⟨(i+1,(zZ x m s).1),by omega,hxo,hf⟩,lew,by simp;omega⟩
 ·(have tk:=zb Tryz.prog;have fx:=hcmp;repeat' (first|(refine hK _ ?_;clear hK K)|refine wa fun K hK=>?_|refine wb ?_|refine wc ?_ ?_|exact we|refine fun (hc:_=(_:Bool))=>?_|clear hK K))
  rw [hf,List.drop_of_length_le (by rw [List.length_zip];omega)]
  rfl
@[go_sem] noncomputable def zb4:Ent Tryz.prog 114:= .m2 zq zw zrU
open Go Go.Proofs
theorem zlM (at_:Int) (_:True):AC 224 [.d (.int .i64 at_)] (.d (.bool (!secOk at_))):=by
 refine bod Tryz.func224 Tryz.ntmps224 (fun base=>?_)
 (repeat' (first|(refine hK _ ?_;clear hK K)|refine wa fun K hK=>?_|refine wb ?_|refine wc ?_ ?_|exact we|refine fun (hc:_=(_:Bool))=>?_|clear hK K))
 congr 2
 rw [secOk,Bool.not_and]
 congr 1
 ·by_cases h:at_<0
  ·rw [decide_eq_true h,decide_eq_false (by omega)];rfl
  ·rw [decide_eq_false h,decide_eq_true (by omega)];rfl
 ·by_cases h:at_<1024
  ·rw [decide_eq_true h,decide_eq_false (by omega)];rfl
  ·rw [decide_eq_false h,decide_eq_true (by omega)];rfl
@[go_sem] noncomputable def zau:Ent Tryz.prog 224:= .m1 (intT .i64) zlM
theorem znf (l:List Int) (x:Int) (k:Nat):idxP (fun q=>x==q) l k=idxP (fun q=>q==x) l k:=by
 have:(fun q:Int=>x==q)=(fun q=>q==x):=by funext q;exact BEq.comm
 rw [this]
theorem zrV (d:Disk) (p:Plan) (at_:Int) (hp:DiskOk d∧PlanOk p∧p.targets.length=p.texts.length):AC 189 [diskA d,planA p,.d (.int .i64 at_)] (.tup [.d (.str (plook d p at_).1),.d (.int .i64 (plook d p at_).2)]):=by
 obtain ⟨hd,hp,hl⟩:=hp
 refine bod Tryz.func189 Tryz.ntmps189 (fun base=>?_)
 have ht:=hp.targets
 have hsw:=znf p.targets at_ 0
 rcases zb3 p.targets at_ with hk|⟨k,hk,hkl⟩
 ·have hk':=hk
  unfold pfind at hk'
  (have tk:=za zak <| za zbe <| zb Tryz.prog;have fx:=(⟨hsw,hk'⟩:_∧_);repeat' (first|(refine hK _ ?_;clear hK K)|refine wa fun K hK=>?_|refine wb ?_|refine wc ?_ ?_|exact we|refine fun (hc:_=(_:Bool))=>?_|clear hK K))
  rw [plook,hk,if_neg (by omega)]
 ·have hk':=hk
  unfold pfind at hk'
  obtain ⟨s,hq⟩:=zaj (l:=p.texts) (i:=k) (by omega)
  have hrow:=za8 (g:=strD) hq
  simp only [strD] at hrow
  have h1:decide ((0:Int)≤(k:Int))=true:=decide_eq_true (by omega)
  (have tk:=za zak <| za zbe <| zb Tryz.prog;have fx:=(⟨hsw,hk',hrow,@Int.toNat_natCast,h1⟩:_∧_∧_∧_∧_);repeat' (first|(refine hK _ ?_;clear hK K)|refine wa fun K hK=>?_|refine wb ?_|refine wc ?_ ?_|exact we|refine fun (hc:_=(_:Bool))=>?_|clear hK K))
  rw [plook,hk,if_pos (by omega),Int.toNat_natCast,List.getD_eq_getElem?_getD,hq]
  rfl
@[go_sem] noncomputable def zW:Ent Tryz.prog 189:= .m3 zq zw (intT .i64) zrV
open Go Go.Proofs
theorem zh1 (l:List Int) (fl:Nat) (hl:l.length≤5000):ACall Tryz.prog 48 fl [.d (.sl 1 (l.map intD))] [] (fun r h'=>r= .osl fl 1 l.length 0 l.length∧h'= [(fl,.arr 1 (l.map intD))]):=by
 refine bod Tryz.func48 Tryz.ntmps48 (fun base=>?_)
 (repeat' ((fail_if_success refine hds 2 (by rfl) ?_);first|(refine hK _ ?_;clear hK K)|refine wa fun K hK=>?_|refine wb ?_|refine wc ?_ ?_|refine fun (nb:Bool) (hnb:nb=true→_)=>?_|exact we|refine fun (hc:_=(_:Bool))=>?_|clear hK K))
 ·refine zf noTab (zb _) (fun K hK=>?_);simp only [go_sem,aeq,aeq.aeqF,simprocAttr]
  (first|(refine hK _ ?_;clear hK K)|(clear hK K;refine hK _ ?_;clear hK K)|(clear hK K;clear hK K;refine hK _ ?_;clear hK K)|(clear hK K;clear hK K;clear hK K;refine hK _ ?_;clear hK K)|(clear hK K;clear hK K;clear hK K;clear hK K;refine hK _ ?_;clear hK K))
  refine zcd 2 1 rfl ?_
  have h0:l= []:=List.map_eq_nil_iff.1 (hnb hc)
  subst h0
  (repeat' (first|(refine hK _ ?_;clear hK K)|refine wa fun K hK=>?_|refine wb ?_|refine wc ?_ ?_|refine fun (nb:Bool) (hnb:nb=true→_)=>?_|exact we|refine fun (hc:_=(_:Bool))=>?_|clear hK K))
  all_goals rfl
theorem zh2 (l:List Txt) (fl:Nat) (hl:l.length≤5000):ACall Tryz.prog 225 fl [.d (.sl 1 (l.map strD))] [] (fun r h'=>r= .osl fl 1 l.length 0 l.length∧h'= [(fl,.arr 1 (l.map strD))]):=by
 refine bod Tryz.func225 Tryz.ntmps225 (fun base=>?_)
 (repeat' ((fail_if_success refine hds 2 (by rfl) ?_);first|(refine hK _ ?_;clear hK K)|refine wa fun K hK=>?_|refine wb ?_|refine wc ?_ ?_|refine fun (nb:Bool) (hnb:nb=true→_)=>?_|exact we|refine fun (hc:_=(_:Bool))=>?_|clear hK K))
 ·refine zf noTab (zb _) (fun K hK=>?_);simp only [go_sem,aeq,aeq.aeqF,simprocAttr]
  (first|(refine hK _ ?_;clear hK K)|(clear hK K;refine hK _ ?_;clear hK K)|(clear hK K;clear hK K;refine hK _ ?_;clear hK K)|(clear hK K;clear hK K;clear hK K;refine hK _ ?_;clear hK K)|(clear hK K;clear hK K;clear hK K;clear hK K;refine hK _ ?_;clear hK K))
  refine zcd 2 1 rfl ?_
  have h0:l= []:=List.map_eq_nil_iff.1 (hnb hc)
  subst h0
  (repeat' (first|(refine hK _ ?_;clear hK K)|refine wa fun K hK=>?_|refine wb ?_|refine wc ?_ ?_|refine fun (nb:Bool) (hnb:nb=true→_)=>?_|exact we|refine fun (hc:_=(_:Bool))=>?_|clear hK K))
  all_goals rfl
theorem zs9 (l:List Int) (h:l.length≤5000) (fl:Nat):ACall Tryz.prog 48 fl [.d (.sl 1 (l.map intD))] [] (fun r h'=>r= .osl fl 1 (l.map intD).length 0 (l.map intD).length∧h'= [(fl,.arr 1 (l.map intD))]):=by
 rw [List.length_map];exact zh1 l fl h
theorem zta (l:List Txt) (h:l.length≤5000) (fl:Nat):ACall Tryz.prog 225 fl [.d (.sl 1 (l.map strD))] [] (fun r h'=>r= .osl fl 1 (l.map strD).length 0 (l.map strD).length∧h'= [(fl,.arr 1 (l.map strD))]):=by
 rw [List.length_map];exact zh2 l fl h
theorem ztF (p:Plan) (at_:Int) (s:Txt) (hp:PlanOk p∧p.targets.length=p.texts.length∧p.targets.length≤24):AC 159 [planA p,.d (.int .i64 at_),.d (.str s)] (.tup [planA (pset p at_ s).1,.d (.int .i64 (pset p at_ s).2)]):=by
 obtain ⟨hp,hl,h24⟩:=hp
 refine fbod Tryz.func159 Tryz.ntmps159 (fun base=>?_)
 have hsw:=znf p.targets at_ 0
 rcases zb3 p.targets at_ with hk|⟨k,hk,hkl⟩
 ·have hk':=hk
  unfold pfind at hk'
  (have tk:=za zau <| za zak <| zb Tryz.prog);repeat' (first|((first|refine zv _ [48,225] ((za zau <| za zak <| zb Tryz.prog)) mx (fun K hK=>?_)|(refine ga ?_;intro K hK)|refine zJ _ [48,225] ((za zau <| za zak <| zb Tryz.prog)) mx ?_|refine gb ?_);simp only [go_sem,aeq,aeq.aeqF,simprocAttr,hsw,hk',Tryz.results159])|refine zj (fun K hK=>?_)|refine sc ?_|refine zi rfl (fun hc=>?_) (fun hc=>?_)|(refine hK _ ?_;clear hK K)|refine fun (nb:Bool) (hnb:nb=true→_)=>?_|with_reducible refine And.intro ?_ ?_|(refine (show zaq _ _=true from ?_);kernel_rfl)|omega|assumption|clear hK K)
  all_goals first|(simp_all [pset];done)|skip
  refine ⟨_,_,zs9 p.targets (by omega),_,_,zta p.texts (by omega),by kernel_rfl,hK _ ?_⟩
  clear hK K
  simp only [List.length_map]
  (have tk:=za zau <| za zak <| zb Tryz.prog;have fx:=(⟨hsw,hk'⟩:_∧_);(repeat' (first|(refine hK _ ?_;clear hK K)|refine va fun K hK=>?_|refine vb ?_|refine wc ?_ ?_|refine fun (nb:Bool) (hnb:nb=true→_)=>?_|exact we|refine fun (hc:_=(_:Bool))=>?_|clear hK K));all_goals clear fx)
  all_goals first|(simp_all [pset];done)|skip
  rw [zeA intD p.targets at_ [D.int .i64 at_] rfl,zeA strD p.texts s [D.str s] rfl]
  by_cases h6:24≤(p.targets.length:Int)
  ·exfalso;simp_all;omega
  ·simp_all [pset]
   simp only [if_neg (show ¬(24:Int)≤p.texts.length by omega)]
   simp
 ·have hk':=hk
  unfold pfind at hk'
  have h1:decide ((0:Int)≤(k:Int))=true:=decide_eq_true (by omega)
  (have tk:=za zau <| za zak <| zb Tryz.prog);repeat' (first|((first|refine zv _ [48,225] ((za zau <| za zak <| zb Tryz.prog)) mx (fun K hK=>?_)|(refine ga ?_;intro K hK)|refine zJ _ [48,225] ((za zau <| za zak <| zb Tryz.prog)) mx ?_|refine gb ?_);simp only [go_sem,aeq,aeq.aeqF,simprocAttr,hsw,hk',Tryz.results159])|refine zj (fun K hK=>?_)|refine sc ?_|refine zi rfl (fun hc=>?_) (fun hc=>?_)|(refine hK _ ?_;clear hK K)|refine fun (nb:Bool) (hnb:nb=true→_)=>?_|with_reducible refine And.intro ?_ ?_|(refine (show zaq _ _=true from ?_);kernel_rfl)|omega|assumption|clear hK K)
  all_goals first|(simp_all [pset];done)|skip
  refine ⟨_,_,zs9 p.targets (by omega),_,_,zta p.texts (by omega),by kernel_rfl,hK _ ?_⟩
  clear hK K
  simp only [List.length_map]
  (have tk:=za zau <| za zak <| zb Tryz.prog;have fx:=(⟨hsw,hk',h1,@Int.toNat_natCast⟩:_∧_∧_∧_);(repeat' (first|(refine hK _ ?_;clear hK K)|refine va fun K hK=>?_|refine vb ?_|refine wc ?_ ?_|refine fun (nb:Bool) (hnb:nb=true→_)=>?_|exact we|refine fun (hc:_=(_:Bool))=>?_|clear hK K));all_goals clear fx)
  all_goals first|(simp_all [pset];done)|skip
  rw [zpU (by omega),zne (by simp)]
  simp_all [pset]
@[go_sem] noncomputable def zbu:Ent Tryz.prog 159:= .m3 zw (intT .i64) strT ztF
open Go Go.Proofs
def pfitZ:List Int→List (Int×Txt)→Bool
 |_,[]=>true
 |seen,q::r=>secOk q.1&& !seen.contains q.1&&((q.2.length:Int)==64)&&pfitZ (seen++ [q.1]) r
theorem zhm:∀ (t:List Int) (s:List Txt) (seen:List Int),pfitL seen t s=pfitZ seen (t.zip s)
 | [],s,seen=>by simp [pfitL,pfitZ]
 |t::r,[],seen=>by simp [pfitL,pfitZ]
 |t::r,s::q,seen=>by simp only [pfitL,pfitZ,List.zip_cons_cons,zhm r q]
theorem zfW:∀ (l:List (Int×Txt)) (seen:List Int) (q:Int×Txt),pfitZ seen (l++ [q])=(pfitZ seen l&&(secOk q.1&& !(seen++l.map (·.1)).contains q.1&&((q.2.length:Int)==64)))
 | [],seen,q=>by simp [pfitZ]
 |a::l,seen,q=>by
  rw [List.cons_append,pfitZ,pfitZ,zfW l,List.map_cons,List.append_assoc,List.singleton_append]
  simp only [Bool.and_assoc]
theorem zpY:∀ (t:List Int) (s:List Txt) (k:Nat) (x:Txt) (y:Int),t[k]?=some y→t.zip (s.set k x)=(t.zip s).set k (y,x)
 | [],s,k,x,y,h=>by simp at h
 |t::r,[],k,x,y,h=>by simp
 |t::r,a::s,0,x,y,h=>by
  have:t=y:=by simpa using h
  subst this
  simp
 |t::r,a::s,k+1,x,y,h=>by
  simp only [List.set_cons_succ,List.zip_cons_cons]
  rw [zpY r s k x y (by simpa using h)]
theorem zkw:∀ (l:List (Int×Txt)) (seen:List Int) (k:Nat) (y:Int) (x:Txt),(∃z,l[k]?=some (y,z))→(x.length:Int)=64→pfitZ seen l=true→pfitZ seen (l.set k (y,x))=true
 | [],seen,k,y,x,h,hx,hf=>by obtain ⟨z,h⟩:=h;simp at h
 |a::l,seen,0,y,x,h,hx,hf=>by
  obtain ⟨z,h⟩:=h
  have:a=(y,z):=by simpa using h
  subst this
  simp only [List.set_cons_zero,pfitZ,Bool.and_eq_true] at hf ⊢
  exact ⟨⟨hf.1.1,by simpa using hx⟩,hf.2⟩
 |a::l,seen,k+1,y,x,h,hx,hf=>by
  simp only [List.set_cons_succ,pfitZ,Bool.and_eq_true] at hf ⊢
  exact ⟨hf.1,zkw l _ k y x (by simpa using h) hx hf.2⟩
theorem pfit_iff {p:Plan} :pfit p=true↔p.targets.length=p.texts.length∧p.targets.length≤24∧pfitZ [] (p.targets.zip p.texts)=true:=by
 simp only [pfit,Bool.and_eq_true,decide_eq_true_eq,zhm,and_assoc]
theorem zpZ {l:List Int} {a:Int} (h:pfind l a= -1):l.contains a=false:=by
 have:=zhh (fun x=>x==a) l 0
 unfold pfind at h
 rw [h] at this
 rw [← List.any_beq']
 simpa using this.symm
theorem zda {p:Plan} {at_:Int} {s:Txt} (hp:pfit p=true):pfit (pset p at_ s).1=true:=by
 obtain ⟨h1,h2,h3⟩:=pfit_iff.1 hp
 unfold pset
 split
 ·exact hp
 rename_i hs
 have hs:secOk at_=true:=by simpa using hs
 split
 ·exact hp
 rename_i hl
 have hl:(s.length:Int)=64:=by simpa using hl
 rcases zb3 p.targets at_ with hk|⟨k,hk,hkl⟩
 ·rw [if_neg (by omega)]
  split
  ·exact hp
  ·rename_i h24
   refine pfit_iff.2 ⟨by simp [h1],by simp;omega,?_⟩
   rw [List.zip_append h1]
   show pfitZ [] (p.targets.zip p.texts++ [(at_,s)])=true
   rw [zfW,h3,hs]
   have:(p.targets.zip p.texts).map (·.1)=p.targets:=by rw [List.map_fst_zip (by omega)]
   rw [List.nil_append,this,zpZ hk,hl]
   rfl
 ·rw [if_pos (by omega),hk,Int.toNat_natCast]
  obtain ⟨y,hy⟩:=zaj hkl
  obtain ⟨z,hz⟩:=zaj (l:=p.texts) (i:=k) (by omega)
  refine pfit_iff.2 ⟨by simp [h1],h2,?_⟩
  show pfitZ [] (p.targets.zip (p.texts.set k s))=true
  rw [zpY _ _ _ _ y hy]
  exact zkw _ _ _ _ _ ⟨z,List.getElem?_zip_eq_some.2 ⟨hy,hz⟩⟩ hl h3
theorem zfX {d:Disk} {p:Plan} {at_ off:Int} {s:Txt} (hp:pfit p=true):pfit (zeh d p at_ off s).1=true:=by
 unfold zeh
 split
 ·exact hp
 split
 ·exact hp
 ·exact zda hp
theorem zp0 (d:Disk) (p:Plan) (at_ off:Int) (s:Txt) (hp:DiskOk d∧d.cache.all (putOk d)=true∧pfit p=true∧s.length≤9223372036854775807):AC 132 [diskA d,planA p,.d (.int .i64 at_),.d (.int .i64 off),.d (.str s)] (.tup [planA (zeh d p at_ off s).1,.d (.int .i64 (zeh d p at_ off s).2)]):=by
 obtain ⟨hd,hf,hp,hs⟩:=hp
 refine fbod Tryz.func132 Tryz.ntmps132 (fun base=>?_)
 obtain ⟨hl,h24,h64⟩:=zaz hp
 have hpo:PlanOk p:=⟨by omega,by omega⟩
 have hb:=zkq (at_:=at_) hf hp
 (have tk:=za zW <| za zpN <| za zbu <| zb Tryz.prog;repeat' (first|(refine hK _ ?_;clear hK K)|refine wa fun K hK=>?_|refine wb ?_|refine wc ?_ ?_|exact we|refine fun (hc:_=(_:Bool))=>?_|clear hK K))
 all_goals first|(simp_all [zeh];done)|skip
@[go_sem] noncomputable def zaC:Ent Tryz.prog 132:= .m5 zq zw (intT .i64) (intT .i64) strT zp0
open Go Go.Proofs
theorem zlN (p:Plan) (_:True):AC 291 [planA p] (.fn (.func 311) [] [.dp (planC p)]):=by
 refine fbod Tryz.func291 Tryz.ntmps291 (fun base=>?_)
 (repeat' (first|(refine hK _ ?_;clear hK K)|refine wa fun K hK=>?_|refine wb ?_|refine wc ?_ ?_|refine fun (nb:Bool) (hnb:nb=true→_)=>?_|exact we|clear hK K))
@[go_sem] noncomputable def zcz:Ent Tryz.prog 291:= .m1 zw zlN
def zbS (q:Int×Txt):List AV:= [.d (.int .i64 q.1),.d (.str q.2)]
def unI:List AV→Int×Txt
 | [.d (.int _ n),.d (.str s)]=>(n,s)
 |_=>(0,[])
theorem zdR (ys:List (Int×Txt)):(ys.map zbS).map unI=ys:=by
 rw [List.map_map]
 exact List.map_id'' (fun _=>rfl) ys
abbrev Sst (p:Plan):= { q:Nat×List (List AV) // q.1≤p.targets.length∧q.2++((p.targets.zip p.texts).drop q.1).map zbS=(p.targets.zip p.texts).map zbS }
theorem zhn (p:Plan) (hp:PlanOk p) (hl:p.targets.length=p.texts.length):AIter Tryz.prog 311 100 [] [.dp (planC p)] [] ((p.targets.zip p.texts).map zbS) (fun g h'=>(∀xs,g=some xs→xs=(p.targets.zip p.texts).map zbS)∧h'= []):=by
 refine itr Tryz.func311 Tryz.ntmps311 (fun base y=>?_)
 (have tk:=zb Tryz.prog);repeat' (first|(refine zy (fun i=>decide (i<100)) (by simp only [inH,idsH,hsel,AV.ids,AV.idsL,AV.idsR,AObj.ids,hget,go_sem,aeq,aeq.aeqF,simprocAttr]) ?_;simp only [go_sem,aeq,aeq.aeqF,simprocAttr,hsel,keepT];refine zH ?_;simp only [go_sem,aeq,aeq.aeqF,simprocAttr])|((first|(refine ya ?_;intro K hK)|refine yb ?_);simp only [go_sem,aeq,aeq.aeqF,simprocAttr])|refine zj (fun K hK=>?_)|refine sc ?_|refine zi rfl (fun hc=>?_) (fun hc=>?_)|(refine hK _ ?_;clear hK K)|((first|refine (show AS.le _ _ from ?_)|refine (show leH _ _ from ?_)|refine (show inH _ _ from ?_));simp only [AS.le,leT,leH,zc,AsgK,AV.le,AV.leL,AObj.le,inH,idsT,idsH,AV.ids,AV.idsL,AV.idsR,AObj.ids,lk,hget,go_sem,aeq,aeq.aeqF,simprocAttr])|refine fun (r2:Rnd _)=>?_|with_reducible refine And.intro ?_ ?_|exact ‹_<+:_› |omega|assumption|clear hK K)
 have h1:=hp.targets
 refine zo (fun q:Sst p=>⟨[(0,true,.fn (.yield y.yl) [] []),(1,true,.dp [.d (.sl 1 (p.targets.map intD)),.d (.sl 1 (p.texts.map strD))]),(6,true,.d (.sl 1 (p.targets.map intD))),(7,true,.d (.int .i64 p.targets.length)),(8,true,.d (.int .i64 q.1.1))],[],some q.1.2⟩) (fun q=>p.targets.length - q.1.1) ⟨(0,[]),Nat.zero_le _,rfl⟩ le1 (fun q=>?_)
 obtain ⟨⟨i,xs⟩,hi,hf⟩:=q
 simp only at hi hf ⊢
 rcases zT intD p.targets i hi with ⟨m,hq,hlt,hcmp,hrow,hdr,htk⟩|⟨hend,hcmp⟩
 ·obtain ⟨s,hq'⟩:=zaj (l:=p.texts) (i:=i) (by omega)
  have hrow':=za8 (g:=strD) hq'
  simp only [intD] at hrow
  simp only [strD] at hrow'
  have hwi:=zp (i:=i) (by omega)
  have hcmp':decide ((i:Int)<(p.texts.length:Int))=true:=by rw [← hl];exact hcmp
  have hz:(p.targets.zip p.texts)[i]?=some (m,s):=List.getElem?_zip_eq_some.2 ⟨hq,hq'⟩
  rw [zcq hz,List.map_cons] at hf
  have hpre:(xs++ [zbS (m,s)])<+:(p.targets.zip p.texts).map zbS:=by rw [← hf];simp
  simp only [zbS] at hpre
  (have tk:=zb Tryz.prog);repeat' (first|(refine zy (fun i=>decide (i<100)) (by simp only [inH,idsH,hsel,AV.ids,AV.idsL,AV.idsR,AObj.ids,hget,go_sem,aeq,aeq.aeqF,simprocAttr]) ?_;simp only [go_sem,aeq,aeq.aeqF,simprocAttr,hcmp,hcmp',hrow,hrow',Int.toNat_natCast,hsel,keepT];refine zH ?_;simp only [go_sem,aeq,aeq.aeqF,simprocAttr,hcmp,hcmp',hrow,hrow',Int.toNat_natCast])|((first|(refine ya ?_;intro K hK)|refine yb ?_);simp only [go_sem,aeq,aeq.aeqF,simprocAttr,hcmp,hcmp',hrow,hrow',Int.toNat_natCast])|refine zj (fun K hK=>?_)|refine sc ?_|refine zi rfl (fun hc=>?_) (fun hc=>?_)|(refine hK _ ?_;clear hK K)|((first|refine (show AS.le _ _ from ?_)|refine (show leH _ _ from ?_)|refine (show inH _ _ from ?_));simp only [AS.le,leT,leH,zc,AsgK,AV.le,AV.leL,AObj.le,inH,idsT,idsH,AV.ids,AV.idsL,AV.idsR,AObj.ids,lk,hget,go_sem,aeq,aeq.aeqF,simprocAttr,hcmp,hcmp',hrow,hrow',Int.toNat_natCast])|refine fun (r2:Rnd _)=>?_|with_reducible refine And.intro ?_ ?_|exact ‹_<+:_› |omega|assumption|clear hK K)
  exact ⟨⟨(i+1,xs++ [zbS (m,s)]),by omega,by rw [← hf];simp⟩,by simp only [AS.le,leT,leH,zc,AsgK,AV.le,AV.leL,AObj.le,inH,idsT,idsH,AV.ids,AV.idsL,AV.idsR,AObj.ids,lk,hget,go_sem,aeq,aeq.aeqF,simprocAttr,hwi,zbS],by simp;omega⟩
 ·(have tk:=zb Tryz.prog);repeat' (first|(refine zy (fun i=>decide (i<100)) (by simp only [inH,idsH,hsel,AV.ids,AV.idsL,AV.idsR,AObj.ids,hget,go_sem,aeq,aeq.aeqF,simprocAttr]) ?_;simp only [go_sem,aeq,aeq.aeqF,simprocAttr,hcmp,hsel,keepT];refine zH ?_;simp only [go_sem,aeq,aeq.aeqF,simprocAttr,hcmp])|((first|(refine ya ?_;intro K hK)|refine yb ?_);simp only [go_sem,aeq,aeq.aeqF,simprocAttr,hcmp])|refine zj (fun K hK=>?_)|refine sc ?_|refine zi rfl (fun hc=>?_) (fun hc=>?_)|(refine hK _ ?_;clear hK K)|((first|refine (show AS.le _ _ from ?_)|refine (show leH _ _ from ?_)|refine (show inH _ _ from ?_));simp only [AS.le,leT,leH,zc,AsgK,AV.le,AV.leL,AObj.le,inH,idsT,idsH,AV.ids,AV.idsL,AV.idsR,AObj.ids,lk,hget,go_sem,aeq,aeq.aeqF,simprocAttr,hcmp])|refine fun (r2:Rnd _)=>?_|with_reducible refine And.intro ?_ ?_|exact ‹_<+:_› |omega|assumption|clear hK K)
  rintro zs rfl
  rw [← hf,List.drop_of_length_le (by rw [List.length_zip];omega)]
  simp
def layF (d:Disk) (l:List (Int×Txt)):Disk:=l.foldl (fun d q=>(zZ d q.1 q.2).1) d
@[go_sem] theorem layF_nil (d:Disk):layF d []=d:=rfl
theorem zp1:∀ (l:List (Int×Txt)) {d:Disk},DiskOk d→DiskOk (layF d l)
 | [],_,h=>h
 |q::l,d,h=>zp1 l (zhl h q.1 q.2)
theorem zp2 (d:Disk) (l:List (Int×Txt)) (q:Int×Txt):layF d (l++ [q])=(zZ (layF d l) q.1 q.2).1:=by simp [layF]
theorem zgJ:∀ (l r:List (Int×Txt)) (d:Disk),(layL d l).2=0→layL d (l++r)=layL (layF d l) r
 | [],r,d,_=>rfl
 | q::l,r,d,h=>by
  rw [layL] at h
  rw [List.cons_append,layL]
  split
  ·rename_i hq
   rw [if_pos hq] at h
   exact absurd h hq
  ·rename_i hq
   rw [if_neg hq] at h
   exact zgJ l r _ h
theorem ztG (d:Disk) (p:Plan) (hp:DiskOk d∧PlanOk p∧p.targets.length=p.texts.length):AC 265 [diskA d,planA p] (.tup [diskA (play d p).1,.d (.int .i64 (play d p).2)]):=by
 obtain ⟨hd,hp,hl⟩:=hp
 refine fbod Tryz.func265 Tryz.ntmps265 (fun base=>?_)
 (have tk:=za zcz <| za zbh <| zb Tryz.prog;repeat' (first|(refine hK _ ?_;clear hK K)|refine wa fun K hK=>?_|refine wb ?_|refine wc ?_ ?_|refine wl ?_|refine fun (r2:Rnd _)=>?_|exact ‹_<+:_› |exact we|refine fun (hc:_=(_:Bool))=>?_|clear hK K))
 obtain ⟨I,hI⟩:∃I:List (List AV)→AHeap×Option (List (List AV)),I=fun xs=>([(3,.var [.d (.int .i64 0)]),(2,.var [.d (.str []),.nils 2,.d (.int .i64 0),.d (.bool false),.nils 1]),(1,.var [.d (.sl 1 (p.targets.map intD)),.d (.sl 1 (p.texts.map strD))]),(0,(.var [.d (.str (layF d (xs.map unI)).data),.d (.sl 2 ((layF d (xs.map unI)).cache.map putD)),.d (.int .i64 (layF d (xs.map unI)).fuse),.d (.bool (layF d (xs.map unI)).off),.d (.sl 1 ((layF d (xs.map unI)).bad.map intD))]))],some []):=⟨_,rfl⟩
 obtain ⟨G,hG⟩:∃G:List (List AV)→Prop,G=fun xs=>(layL d (xs.map unI)).2=0:=⟨_,rfl⟩
 obtain ⟨J,hJ⟩:∃J:Code→AHeap→Option (List (List AV))→Prop,J=fun c h g=>c= .exit 0∧g=some []∧∃D e,play d p=(D,e)∧h= [(3,.var [.d (.int .i64 e)]),(2,.var [.d (.str []),.nils 2,.d (.int .i64 0),.d (.bool false),.nils 1]),(1,.var [.d (.sl 1 (p.targets.map intD)),.d (.sl 1 (p.texts.map strD))]),(0,(.var [.d (.str D.data),.d (.sl 2 (D.cache.map putD)),.d (.int .i64 D.fuse),.d (.bool D.off),.d (.sl 1 (D.bad.map intD))]))]:=⟨_,rfl⟩
 refine zch 100 G I J (zhn p hp hl) (by simp only [go_sem,aeq,aeq.aeqF,simprocAttr]) rfl (zap rfl) (by simp [cxOf,cxY]) rfl (by rw [hG];first|trivial|rfl|simp) (by rw [hI];simp only [AS.le,leT,leH,zc,AsgK,AV.le,AV.leL,AObj.le,inH,idsT,idsH,AV.ids,AV.idsL,AV.idsR,AObj.ids,lk,hget,go_sem,aeq,aeq.aeqF,simprocAttr]<;>simp [AV.leL,AV.le]) (by rw [hI];simp only [AS.le,leT,leH,zc,AsgK,AV.le,AV.leL,AObj.le,inH,idsT,idsH,AV.ids,AV.idsL,AV.idsR,AObj.ids,lk,hget,go_sem,aeq,aeq.aeqF,simprocAttr]<;>simp) (by rw [hI]<;>rfl) (by intro x hx;obtain ⟨q,_,rfl⟩:=List.mem_map.1 hx;rfl) (by intro t ht;simp at ht;first|(rcases ht with rfl|rfl<;>simp [cxOf,cxY]<;>done)|(subst ht;simp [cxOf,cxY])) ?_ ?_ ?_
 ·intro xs x hpre hgd l1 r1
  obtain ⟨ys,⟨n,s⟩,zs,rfl,rfl,hzl⟩:=zeg hpre
  rw [hG] at hgd
  simp only [zdR] at hgd
  have hx:=zp1 ys hd
  have hall:play d p=layL (layF d ys) ((n,s)::zs):=by rw [play,hzl,zgJ _ _ _ hgd]
  rw [layL] at hall
  simp only [zbS]
  refine aw_le ⟨[(11,true,.d (.int .i64 n)),(12,true,.d (.str s)),(2,true,.vp 0 0),(3,true,.vp 1 0),(4,true,.vp 2 0),(6,true,.vp 3 0)],[(3,.var [.d (.int .i64 0)]),(2,.var [.d (.str []),.nils 2,.d (.int .i64 0),.d (.bool false),.nils 1]),(1,.var [.d (.sl 1 (p.targets.map intD)),.d (.sl 1 (p.texts.map strD))]),(0,(.var [.d (.str (layF d ys).data),.d (.sl 2 ((layF d ys).cache.map putD)),.d (.int .i64 (layF d ys).fuse),.d (.bool (layF d ys).off),.d (.sl 1 ((layF d ys).bad.map intD))]))],some []⟩ (by rw [hI];simp only [zdR];simp only [AS.le,leT,leH,zc,AsgK,AV.le,AV.leL,AObj.le,inH,idsT,idsH,AV.ids,AV.idsL,AV.idsR,AObj.ids,lk,hget,go_sem,aeq,aeq.aeqF,simprocAttr]) ?_
  have hsn:((ys.map zbS++ [[AV.d (.int .i64 n),AV.d (.str s)]]).map unI)=ys++ [(n,s)]:=by
   rw [List.map_append,zdR];rfl
  have hsf:layF d (ys++ [(n,s)])=(zZ (layF d ys) n s).1:=zp2 _ _ _
  (have tk:=za zcz <| za zbh <| zb Tryz.prog;have fx:=(⟨hI,hsn,hsf⟩:_∧_∧_);repeat' (first|(refine hK _ ?_;clear hK K)|refine wa fun K hK=>?_|refine wb ?_|refine wc ?_ ?_|refine wl ?_|refine fun (r2:Rnd _)=>?_|exact ‹_<+:_› |exact we|refine fun (hc:_=(_:Bool))=>?_|clear hK K))
  all_goals first|rfl|skip
  ·have hc:(zZ (layF d ys) n s).2≠0:=by simpa using hc
   rw [hJ]
   exact ⟨rfl,rfl,_,_,by rw [hall,if_pos hc],rfl⟩
  ·have hc:(zZ (layF d ys) n s).2=0:=by simpa using hc
   rw [hG]
   simp only [hsn]
   rw [zgJ _ _ _ hgd,layL,if_neg (by simpa using hc)]
   rfl
  ·have hc:(zZ (layF d ys) n s).2=0:=by simpa using hc
   rw [hc]
 ·intro hgd
  rw [hG] at hgd
  simp only [zdR] at hgd
  have hall:play d p=(layF d (p.targets.zip p.texts),0):=by
   have:=zgJ (p.targets.zip p.texts) [] d hgd
   rw [List.append_nil] at this
   rw [play,this,layL]
  rw [hI]
  simp only [zdR]
  (have tk:=zb Tryz.prog;have fx:=Go.Aw.fx;repeat' (first|(refine hK _ ?_;clear hK K)|refine wa fun K hK=>?_|refine wb ?_|refine wc ?_ ?_|refine wl ?_|refine fun (r2:Rnd _)=>?_|exact ‹_<+:_› |exact we|refine fun (hc:_=(_:Bool))=>?_|clear hK K))
  rw [hall]
 ·rw [hJ]
  rintro c h3 g3 ⟨rfl,rfl,D,e,hall,rfl⟩
  (have tk:=zb Tryz.prog;have fx:=Go.Aw.fx;repeat' (first|(refine hK _ ?_;clear hK K)|refine wa fun K hK=>?_|refine wb ?_|refine wc ?_ ?_|refine wl ?_|refine fun (r2:Rnd _)=>?_|exact ‹_<+:_› |exact we|refine fun (hc:_=(_:Bool))=>?_|clear hK K))
  rw [hall]
@[go_sem] noncomputable def zfn:Ent Tryz.prog 265:= .m2 zq zw ztG
open Go Go.Proofs
def seenM (l:List Int):List (D×D):=l.map fun n=>(.int .i64 n,.bool true)
@[go_sem] theorem zuW:seenM []= []:=rfl
theorem zn5 (l:List Int):((seenM l).all fun p=>alike (.int .i64) p.1)=true:=by
 simp [seenM,alike]
theorem ztH (n m:Int) (v:D) (l:List (D×D)):mat (.int .i64 n) ((.int .i64 m,v)::l)=if n=m then some v else mat (.int .i64 n) l:=by
 by_cases h:n=m<;>simp [mat,sameS,h]
theorem zrY (n m:Int) (w v:D) (l:List (D×D)):mput (.int .i64 n) w ((.int .i64 m,v)::l)=if n=m then (.int .i64 n,w)::l else (.int .i64 m,v)::mput (.int .i64 n) w l:=by
 by_cases h:n=m<;>simp [mput,sameS,h]
theorem zng (n:Int):∀l:List Int,((mat (.int .i64 n) (seenM l)).getD (.bool false))= .bool (l.contains n)
 | []=>rfl
 | m::l=>by
  have ih:=zng n l
  have e:seenM (m::l)=(.int .i64 m,.bool true)::seenM l:=rfl
  rw [e,ztH,List.contains_cons]
  by_cases h:n=m
  ·subst h;simp
  ·rw [if_neg h,ih]
   simp [h]
theorem znh (n:Int):∀l:List Int,l.contains n=false→mput (.int .i64 n) (.bool true) (seenM l)=seenM (l++ [n])
 | [],_=>rfl
 |m::l,h=>by
  simp only [List.contains_cons,Bool.or_eq_false_iff] at h
  have ih:=znh n l h.2
  have e:seenM (m::l)=(.int .i64 m,.bool true)::seenM l:=rfl
  rw [e,zrY,if_neg (by simpa using h.1),ih]
  rfl
theorem zkx:∀ (l r:List (Int×Txt)) (seen:List Int),pfitZ seen (l++r)=(pfitZ seen l&&pfitZ (seen++l.map (·.1)) r)
 | [],r,seen=>by simp [pfitZ]
 |a::l,r,seen=>by
  rw [List.cons_append,pfitZ,pfitZ,zkx l,List.map_cons,List.append_assoc,List.singleton_append]
  simp only [Bool.and_assoc]
theorem ztI (p:Plan) (hp:PlanOk p):AC 254 [planA p] (.d (.bool (pfit p))):=by
 refine fbod Tryz.func254 Tryz.ntmps254 (fun base=>?_)
 have h1:=hp.targets
 have h2:=hp.texts
 (have tk:=za zcz <| za zau <| zb Tryz.prog;repeat' (first|(refine hK _ ?_;clear hK K)|refine wa fun K hK=>?_|refine wb ?_|refine wc ?_ ?_|refine wl ?_|refine fun (r2:Rnd _)=>?_|exact ‹_<+:_› |exact we|refine fun (hc:_=(_:Bool))=>?_|clear hK K))
 ·have:pfit p=false:=by
   simp only [Bool.or_eq_true,bne_iff_ne,decide_eq_true_eq] at hc
   rw [pfit]
   rcases hc with hc|hc
   ·rw [decide_eq_false (p:=p.targets.length=p.texts.length) (by omega)];simp
   ·rw [decide_eq_false (p:=p.targets.length≤24) (by omega)];simp
  rw [this]
 obtain ⟨hl,h24⟩:p.targets.length=p.texts.length∧p.targets.length≤24:=by
  simp only [Bool.or_eq_false_iff,bne_eq_false_iff_eq,decide_eq_false_iff_not] at hc
  omega
 have hfit:pfit p=pfitZ [] (p.targets.zip p.texts):=by
  rw [pfit,decide_eq_true hl,decide_eq_true h24,zhm];simp
 obtain ⟨I,hI⟩:∃I:List (List AV)→AHeap×Option (List (List AV)),I=fun xs=>([(3,.var [.map 2]),(2,.omap (seenM ((xs.map unI).map (·.1)))),(1,.var [.d (.bool false)]),(0,.var [.d (.sl 1 (p.targets.map intD)),.d (.sl 1 (p.texts.map strD))])],some []):=⟨_,rfl⟩
 obtain ⟨G,hG⟩:∃G:List (List AV)→Prop,G=fun xs=>pfitZ [] (xs.map unI)=true:=⟨_,rfl⟩
 obtain ⟨J,hJ⟩:∃J:Code→AHeap→Option (List (List AV))→Prop,J=fun c h g=>c= .ret∧g=some []∧pfit p=false∧∃m,h= [(3,.var [.map 2]),(2,.omap m),(1,.var [.d (.bool false)]),(0,.var [.d (.sl 1 (p.targets.map intD)),.d (.sl 1 (p.texts.map strD))])]:=⟨_,rfl⟩
 refine zch 100 G I J (zhn p hp hl) (by simp only [go_sem,aeq,aeq.aeqF,simprocAttr]) rfl (zap rfl) (by simp [cxOf,cxY]) rfl (by rw [hG];first|trivial|rfl|simp) (by rw [hI];simp only [AS.le,leT,leH,zc,AsgK,AV.le,AV.leL,AObj.le,inH,idsT,idsH,AV.ids,AV.idsL,AV.idsR,AObj.ids,lk,hget,go_sem,aeq,aeq.aeqF,simprocAttr]<;>simp [AV.leL,AV.le]) (by rw [hI];simp only [AS.le,leT,leH,zc,AsgK,AV.le,AV.leL,AObj.le,inH,idsT,idsH,AV.ids,AV.idsL,AV.idsR,AObj.ids,lk,hget,go_sem,aeq,aeq.aeqF,simprocAttr]<;>simp) (by rw [hI]<;>rfl) (by intro x hx;obtain ⟨q,_,rfl⟩:=List.mem_map.1 hx;rfl) (by intro t ht;simp at ht;first|(rcases ht with rfl|rfl<;>simp [cxOf,cxY]<;>done)|(subst ht;simp [cxOf,cxY])) ?_ ?_ ?_
 ·intro xs x hpre hgd l1 r1
  obtain ⟨ys,⟨n,s⟩,zs,rfl,rfl,hzl⟩:=zeg hpre
  rw [hG] at hgd
  simp only [zdR] at hgd
  have hall:pfit p=pfitZ (ys.map (·.1)) ((n,s)::zs):=by
   rw [hfit,hzl,zkx,hgd];rfl
  rw [pfitZ] at hall
  simp only [zbS]
  refine aw_le ⟨[(22,true,.d (.int .i64 n)),(23,true,.d (.str s)),(1,true,.vp 0 0),(2,true,.vp 1 0),(3,true,.vp 3 0)],[(3,.var [.map 2]),(2,.omap (seenM (ys.map (·.1)))),(1,.var [.d (.bool false)]),(0,.var [.d (.sl 1 (p.targets.map intD)),.d (.sl 1 (p.texts.map strD))])],some []⟩ (by rw [hI];simp only [zdR];simp only [AS.le,leT,leH,zc,AsgK,AV.le,AV.leL,AObj.le,inH,idsT,idsH,AV.ids,AV.idsL,AV.idsR,AObj.ids,lk,hget,go_sem,aeq,aeq.aeqF,simprocAttr]) ?_
  have hsm:=zng n (ys.map (·.1))
  have hsa:=zn5 (ys.map (·.1))
  have hsn:((ys.map zbS++ [[AV.d (.int .i64 n),AV.d (.str s)]]).map unI)=ys++ [(n,s)]:=by
   rw [List.map_append,zdR];rfl
  (have tk:=za zcz <| za zau <| zb Tryz.prog;have fx:=(⟨hI,hsn,hsm,hsa⟩:_∧_∧_∧_);repeat' (first|(refine hK _ ?_;clear hK K)|refine wa fun K hK=>?_|refine wb ?_|refine wc ?_ ?_|refine wl ?_|refine fun (r2:Rnd _)=>?_|exact ‹_<+:_› |exact we|refine fun (hc:_=(_:Bool))=>?_|clear hK K))
  ·rw [hJ]
   refine ⟨rfl,rfl,?_,_,rfl⟩
   have hh:(!secOk n||(ys.map (·.1)).contains n||((s.length:Int) !=64))= !(secOk n&& !(ys.map (·.1)).contains n&&((s.length:Int)==64)):=by
    rw [Bool.not_and,Bool.not_and,Bool.not_not];rfl
   rw [hh] at hc
   simp only [Bool.not_eq_true'] at hc
   rw [hall,hc,Bool.false_and]
  ·rw [hG]
   simp only [hsn]
   simp only [Bool.or_eq_false_iff,Bool.not_eq_false',bne_eq_false_iff_eq] at hc
   rw [zfW,hgd,List.nil_append,hc.1.1,hc.1.2,hc.2]
   rfl
  ·simp only [Bool.or_eq_false_iff] at hc
   rw [znh _ _ hc.1.2,List.map_append]
   rfl
 ·intro hgd
  rw [hG] at hgd
  simp only [zdR] at hgd
  rw [hI]
  (have tk:=zb Tryz.prog;have fx:=Go.Aw.fx;repeat' (first|(refine hK _ ?_;clear hK K)|refine wa fun K hK=>?_|refine wb ?_|refine wc ?_ ?_|refine wl ?_|refine fun (r2:Rnd _)=>?_|exact ‹_<+:_› |exact we|refine fun (hc:_=(_:Bool))=>?_|clear hK K))
  rw [hfit,hgd]
 ·rw [hJ]
  rintro c h3 g3 ⟨rfl,rfl,hno,m,rfl⟩
  (have tk:=zb Tryz.prog;have fx:=Go.Aw.fx;repeat' (first|(refine hK _ ?_;clear hK K)|refine wa fun K hK=>?_|refine wb ?_|refine wc ?_ ?_|refine wl ?_|refine fun (r2:Rnd _)=>?_|exact ‹_<+:_› |exact we|refine fun (hc:_=(_:Bool))=>?_|clear hK K))
  rw [hno]
@[go_sem] noncomputable def zho:Ent Tryz.prog 254:= .m1 zw ztI
open Go Go.Proofs
structure DiskF (d:Disk):Prop where
 ok:DiskOk d
 puts:d.cache.all (putOk d)=true
theorem zkA {d d':Disk} (h:d'.data.length=d.data.length):putOk d'=putOk d:=by
 funext q
 unfold putOk there dsize
 rw [h]
theorem zfY (d:Disk):(burnt d).data=d.data:=by unfold burnt;split<;>rfl
theorem zhs (d:Disk):(burnt d).cache=d.cache:=by unfold burnt;split<;>rfl
theorem zlP (d:Disk) (a:Int) (s:Txt):(zZ d a s).1.data=d.data:=by
 unfold zZ
 repeat' split
 all_goals first|rfl|(rw [zfY])
theorem DiskF.write {d:Disk} (h:DiskF d) (a:Int) (s:Txt):DiskF (zZ d a s).1:=by
 refine ⟨zhl h.ok a s,?_⟩
 have e:=zkA (d:=d) (d':=(zZ d a s).1) (by rw [zlP])
 rw [e]
 unfold zZ
 split
 ·exact h.puts
 split
 ·exact h.puts
 split
 ·exact h.puts
 split
 ·exact h.puts
 split
 ·exact h.puts
 split
 ·exact h.puts
 ·rename_i h1 h2 h3 h4 h5 h6
  rw [zhs,List.all_append,h.puts]
  have h3:(s.length:Int)=64:=by simpa using h3
  simp [putOk,h3]
  simpa using h2
theorem zn8 {d:Disk} (h:d.cache.all (putOk d)=true):(dflush d).1.data.length=d.data.length:=by
 unfold dflush
 split
 ·rfl
 split
 ·rfl
 ·rw [zfY];exact ziu h
theorem DiskF.flush {d:Disk} (h:DiskF d):DiskF (dflush d).1:=by
 have hl:=zn8 h.puts
 refine ⟨?_,?_⟩
 ·revert hl
  unfold dflush
  split
  ·intro _;exact h.ok
  split
  ·intro _;exact ⟨h.ok.data,h.ok.cache,h.ok.bad,h.ok.fuse0,h.ok.fuse1⟩
  ·intro hl
   rw [zfY] at hl
   exact zm8 ⟨by rw [hl];exact h.ok.data,by simp,h.ok.bad,h.ok.fuse0,h.ok.fuse1⟩
 ·rw [zkA hl]
  unfold dflush
  split
  ·exact h.puts
  split
  ·exact h.puts
  ·rw [zhs];rfl
theorem DiskF.layL:∀ (l:List (Int×Txt)) {d:Disk},DiskF d→DiskF (layL d l).1
 | [],d,h=>h
 |q::l,d,h=>by
  rw [Aw.layL]
  split
  ·exact h.write q.1 q.2
  ·exact DiskF.layL l (h.write q.1 q.2)
def encT (l:List Int):Txt:=l.flatMap (fun t=>putN t.toNat 4)
def padR (s:Txt):Txt:=(padS s 64).1
def trows (l:List Int):List Txt:=if l.length≤16 then [padR (encT l)] else [padR (encT (l.take 16)),padR (encT (l.drop 16))]
def tbody (p:Plan):List Txt:=trows p.targets++p.texts
def thead (seq:Int) (p:Plan):Txt:=putN seq.toNat 8++putN p.targets.length 2
def tsum (c:Int) (l:List Txt):Int:=l.foldl sumOf c
def ztb:Txt:= [67,79,70,74]
def ttop (seq:Int) (p:Plan):Txt:=padR (ztb++thead seq p++putN (65535 - p.targets.length) 2++zeP (tsum (sumOf 0 (thead seq p)) (tbody p)))
def zci (seq:Int) (p:Plan):List Txt:=ttop seq p::tbody p
theorem znj {p:Plan} (hp:pfit p=true):∀t∈p.targets,0≤t∧t<1024:=by
 obtain ⟨h1,h2,h3⟩:=pfit_iff.1 hp
 have key:∀ (l:List (Int×Txt)) (seen:List Int),pfitZ seen l=true→∀q∈l,0≤q.1∧q.1<1024:=by
  intro l
  induction l with
  |nil=>intro _ _ q hq;simp at hq
  | cons a l ih=>
   intro seen h q hq
   simp only [pfitZ,Bool.and_eq_true] at h
   rcases List.mem_cons.1 hq with rfl|hq
   ·have:=h.1.1.1
    simpa [secOk] using this
   ·exact ih _ h.2 q hq
 intro t ht
 obtain ⟨i,hi,rfl⟩:=List.mem_iff_getElem.1 ht
 have hz:(p.targets.zip p.texts)[i]?=some (p.targets[i],p.texts[i]'(by omega)):=List.getElem?_zip_eq_some.2 ⟨by simp [hi],by simp⟩
 exact key _ _ h3 _ (List.mem_of_getElem? hz)
theorem zr2 (s:Txt) (hs:s.length≤9223372036854775807):AC 245 [.d (.str s)] (.d (.str (padR s))):=by
 refine bod Tryz.func245 Tryz.ntmps245 (fun base=>?_)
 (have tk:=za zdt <| zb Tryz.prog;repeat' (first|(refine hK _ ?_;clear hK K)|refine wa fun K hK=>?_|refine wb ?_|refine wc ?_ ?_|exact we|clear hK K))
 rfl
@[go_sem] noncomputable def zcH:Ent Tryz.prog 245:= .m1 strT zr2
open Go Go.Proofs
structure Tx where
 seq:Int
 plan:Plan
 deriving DecidableEq
def txA (t:Tx):AV:= .agg [.d (.int .u64 t.seq),.d (.sl 1 (t.plan.targets.map intD)),.d (.sl 1 (t.plan.texts.map strD))]
attribute [go_sem] txA
theorem zuZ (t:Tx):Tx.mk t.seq t.plan=t:=rfl
noncomputable def txA_T:PT Tx:=aggT (consL (intT .u64) (consL (slT 1 intD zcy) (consL (slT 1 strD zfh) nilL))) (fun p=>⟨p.1,⟨p.2.1,p.2.2.1⟩⟩) (fun x=>(x.seq,x.plan.targets,x.plan.texts,())) (fun _=>rfl)
attribute [go_sem] txA_T
attribute [go_sem] zuZ
def trest (l:List Int) (i:Nat):List Txt×Txt:=
 if i=l.length then (trows l,[]) else if i<16 then ([],encT (l.take i)) else ([padR (encT (l.take 16))],encT ((l.take i).drop 16))
theorem zht (l:List Int) (t:Int):encT (l++ [t])=encT l++putN t.toNat 4:=by simp [encT]
theorem zdS (l:List Int):(encT l).length=4*l.length:=by
 induction l with
 |nil=>rfl
 |cons a l ih=>simp only [encT,List.flatMap_cons,List.length_append,zP,List.length_cons] at ih ⊢;omega
theorem zqd {n:Nat} (h:n<18446744073709551616):IntKind.u64.wrap (n:Int)=n:=zad (by omega) (by omega)
theorem ztS (l:List Int) (h:0<l.length):trest l 0=([],[]):=by
 rw [trest,if_neg (by omega),if_pos (by omega)];rfl
theorem zod {l:List Int} {i:Nat} {t:Int} (hq:l[i]?=some t) (h24:l.length≤24):
  trest l (i+1)=if i+1=l.length∨i % 16=15 then ((trest l i).1++ [padR ((trest l i).2++putN t.toNat 4)],[]) else ((trest l i).1,(trest l i).2++putN t.toNat 4):=by
 have hlt:i<l.length:=(List.getElem?_eq_some_iff.1 hq).1
 have htk:l.take (i+1)=l.take i++ [t]:=zaZ hq
 have e0:trest l i=if i<16 then ([],encT (l.take i)) else ([padR (encT (l.take 16))],encT ((l.take i).drop 16)):=by
  rw [trest,if_neg (by omega)]
 rw [e0]
 by_cases h16:i<16
 ·simp only [if_pos h16]
  rw [List.nil_append,← zht,← htk]
  by_cases he:i+1=l.length
  ·rw [if_pos (.inl he),trest,if_pos he,trows,if_pos (by omega),he,List.take_length]
  ·by_cases h15:i % 16=15
   ·rw [if_pos (.inr h15),trest,if_neg he,if_neg (by omega)]
    have:i+1=16:=by omega
    rw [this,List.drop_of_length_le (by rw [List.length_take];omega)]
    rfl
   ·rw [if_neg (by omega),trest,if_neg he,if_pos (by omega)]
 ·simp only [if_neg h16]
  have hd:(l.take (i+1)).drop 16=(l.take i).drop 16++ [t]:=by
   rw [htk,List.drop_append_of_le_length (by rw [List.length_take];omega)]
  rw [← zht,← hd]
  by_cases he:i+1=l.length
  ·rw [if_pos (.inl he),trest,if_pos he,trows,if_neg (by omega),he,List.take_length]
   rfl
  ·rw [if_neg (by omega),trest,if_neg he,if_neg (by omega)]
theorem zjj:∀ (l:List Txt) (c:Int),0≤c→c≤4294967295→0≤tsum c l∧tsum c l≤4294967295
 | [],c,h0,h1=>⟨h0,h1⟩
 |s::l,c,h0,h1=>zjj l _ (ze1 c s h0 h1).1 (ze1 c s h0 h1).2
theorem zkE (l:List Txt) (c:Int) (s:Txt):tsum c (l++ [s])=sumOf (tsum c l) s:=by simp [tsum]
theorem zgM {s:Txt} (h:s.length≤64):(padR s).length=64:=by
 rw [padR,padS,if_neg (by omega)]
 simp;omega
theorem zqe (l:List Int) (h:l.length≤24):∀s∈trows l,s.length=64:=by
 intro s hs
 unfold trows at hs
 split at hs
 ·simp only [List.mem_singleton] at hs
  subst hs
  exact zgM (by rw [zdS];omega)
 ·simp only [List.mem_cons,List.not_mem_nil,or_false] at hs
  rcases hs with rfl|rfl
  ·exact zgM (by rw [zdS,List.length_take];omega)
  ·exact zgM (by rw [zdS,List.length_drop];omega)
theorem zhu {p:Plan} (hf:pfit p=true):∀s∈tbody p,s.length=64:=by
 obtain ⟨hl,h24,h64⟩:=zaz hf
 intro s hs
 rcases List.mem_append.1 hs with h|h
 ·exact zqe _ h24 s h
 ·exact h64 s h
theorem zcI (c:Int):(zeP c).length=4:=rfl
theorem zoe (t:Tx) (hp:PlanOk t.plan∧pfit t.plan=true∧t.plan.targets.length≠0∧0≤t.seq∧t.seq<18446744073709551616):AC 184 [txA t] (.tup [.d (.sl 1 ((zci t.seq t.plan).map strD)),.d (.int .i64 0)]):=by
 obtain ⟨hp,hf,hn,h0,h1⟩:=hp
 refine fbod Tryz.func184 Tryz.ntmps184 (fun base=>?_)
 obtain ⟨hl,h24,h64⟩:=zaz hf
 have hrng:=znj hf
 have hn0:((t.plan.targets.length:Int)==0)=false:=by rw [beq_eq_false_iff_ne];omega
 (have tk:=za zcF <| za zar <| za zcH <| za za6 <| za za3 <| za zav <| zb Tryz.prog;have fx:=(⟨hf,hn0⟩:_∧_);repeat' (first|(refine hK _ ?_;clear hK K)|refine wa fun K hK=>?_|refine wb ?_|refine wc ?_ ?_|refine fun (nb:Bool) (hnb:nb=true→_)=>?_|exact we|refine fun (hc:_=(_:Bool))=>?_|clear hK K))
 refine zcd 5 1 rfl ?_
 simp only [fresh,top,hget, ↓reduceIte]
 refine zo (fun q: { i:Nat // i≤t.plan.targets.length } =>⟨[(1,true,.vp 0 0),(4,true,.d (.int .i64 t.plan.targets.length)),(5,true,.osl 1 1 (trest t.plan.targets q.1).1.length 0 (trest t.plan.targets q.1).1.length),(6,true,.d (.str (trest t.plan.targets q.1).2)),(7,true,.d (.int .i64 q.1))],[(1,.arr 1 ((trest t.plan.targets q.1).1.map strD)),(0,.var [.d (.int .u64 t.seq),.d (.sl 1 (t.plan.targets.map intD)),.d (.sl 1 (t.plan.texts.map strD))])],some []⟩) (fun q=>t.plan.targets.length - q.1) ⟨0,Nat.zero_le _⟩ (by simp only [ztS _ (Nat.pos_of_ne_zero hn)];simp only [AS.le,leT,leH,zc,AsgK,AV.le,AV.leL,AObj.le,inH,idsT,idsH,AV.ids,AV.idsL,AV.idsR,AObj.ids,lk,hget,go_sem,aeq,aeq.aeqF,simprocAttr]<;>and_intros<;>rfl) (fun q=>?_)
 obtain ⟨i,hi⟩:=q
 simp only at hi ⊢
 rcases zT intD t.plan.targets i hi with ⟨m,hq,hlt,hcmp,hrow,hdr,htk⟩|⟨hend,hcmp⟩
 ·simp only [intD] at hrow
  have hwi:=zp (i:=i) (by omega)
  obtain ⟨hm0,hm1⟩:=hrng m (List.mem_of_getElem? hq)
  have hwm:IntKind.u64.wrap m=m:=zad (by omega) (by omega)
  have hp4:putS8 m 4=putN m.toNat 4:=by rw [putS8,if_neg (by omega)];rfl
  have hts:=zod hq h24
  have hl6:(trest t.plan.targets i).2.length≤96:=by
   have e0:trest t.plan.targets i=if i<16 then ([],encT (t.plan.targets.take i)) else ([padR (encT (t.plan.targets.take 16))],encT ((t.plan.targets.take i).drop 16)):=by
    rw [trest,if_neg (by omega)]
   rw [e0]
   split
   ·simp only [zdS,List.length_take];omega
   ·simp only [zdS,List.length_take,List.length_drop];omega
  have hn1:IntKind.i64.wrap ((t.plan.targets.length:Int) - 1)=(t.plan.targets.length:Int) - 1:=zg (by omega) (by omega)
  have hl4:(putN m.toNat 4).length=4:=zP _ _
  have hcl:(trest t.plan.targets i).1.length≤1:=by
   have e0:trest t.plan.targets i=if i<16 then ([],encT (t.plan.targets.take i)) else ([padR (encT (t.plan.targets.take 16))],encT ((t.plan.targets.take i).drop 16)):=by
    rw [trest,if_neg (by omega)]
   rw [e0]
   split<;>simp
  by_cases hc:i+1=t.plan.targets.length∨i % 16=15
  ·have hdec:(((i:Int)==(t.plan.targets.length:Int) - 1)||((i:Int).tmod 16==15))=true:=by
    rw [Bool.or_eq_true,beq_iff_eq,beq_iff_eq,Int.tmod_eq_emod_of_nonneg (by omega)]
    omega
   rw [if_pos hc] at hts
   (have tk:=za zcF <| za zar <| za zcH <| za za6 <| za za3 <| za zav <| zb Tryz.prog);repeat' (first|((first|(refine sa ?_;intro K hK)|refine sb ?_);simp only [go_sem,aeq,aeq.aeqF,simprocAttr,hcmp,hrow,hwm,hp4,hn1,hdec,List.length_append,hl4,Tryz.results184])|refine zj (fun K hK=>?_)|refine sc ?_|refine zi rfl (fun hc=>?_) (fun hc=>?_)|(refine hK _ ?_;clear hK K)|refine fun (nb:Bool) (hnb:nb=true→_)=>?_|with_reducible refine And.intro ?_ ?_|omega|assumption|refine fun (hg:(_:Bool)=(_:Bool))=>?_|clear hK K)
   all_goals first|omega|(simp only [List.length_append,hl4];omega)|skip
   exact ⟨⟨i+1,by omega⟩,by simp only [hts,List.map_append,List.length_append,List.length_singleton];simp only [AS.le,leT,leH,zc,AsgK,AV.le,AV.leL,AObj.le,inH,idsT,idsH,AV.ids,AV.idsL,AV.idsR,AObj.ids,lk,hget,go_sem,aeq,aeq.aeqF,simprocAttr,hwi]<;>and_intros<;>rfl,by simp;omega⟩
  ·have hdec:(((i:Int)==(t.plan.targets.length:Int) - 1)||((i:Int).tmod 16==15))=false:=by
    rw [Bool.or_eq_false_iff,beq_eq_false_iff_ne,beq_eq_false_iff_ne,Int.tmod_eq_emod_of_nonneg (by omega)]
    omega
   rw [if_neg hc] at hts
   (have tk:=za zcF <| za zar <| za zcH <| za za6 <| za za3 <| za zav <| zb Tryz.prog);repeat' (first|((first|(refine sa ?_;intro K hK)|refine sb ?_);simp only [go_sem,aeq,aeq.aeqF,simprocAttr,hcmp,hrow,hwm,hp4,hn1,hdec,List.length_append,hl4,Tryz.results184])|refine zj (fun K hK=>?_)|refine sc ?_|refine zi rfl (fun hc=>?_) (fun hc=>?_)|(refine hK _ ?_;clear hK K)|refine fun (nb:Bool) (hnb:nb=true→_)=>?_|with_reducible refine And.intro ?_ ?_|omega|assumption|refine fun (hg:(_:Bool)=(_:Bool))=>?_|clear hK K)
   all_goals first|omega|(simp only [List.length_append,hl4];omega)|skip
   exact ⟨⟨i+1,by omega⟩,by simp only [hts];simp only [AS.le,leT,leH,zc,AsgK,AV.le,AV.leL,AObj.le,inH,idsT,idsH,AV.ids,AV.idsL,AV.idsR,AObj.ids,lk,hget,go_sem,aeq,aeq.aeqF,simprocAttr,hwi],by simp;omega⟩
 ·subst hend
  have he:trest t.plan.targets t.plan.targets.length=(trows t.plan.targets,[]):=by rw [trest,if_pos rfl]
  have htr:(trows t.plan.targets).length≤2:=by unfold trows;split<;>simp
  have hu:IntKind.u64.wrap (t.plan.targets.length:Int)=(t.plan.targets.length:Int):=zqd (by omega)
  have hp8:putS8 t.seq 8=putN t.seq.toNat 8:=by rw [putS8,if_neg (by omega)];rfl
  have hp2:putS8 (t.plan.targets.length:Int) 2=putN t.plan.targets.length 2:=by rw [putS8,if_neg (by omega)];rfl
  have hw5:IntKind.i64.wrap (65535 - (t.plan.targets.length:Int))=((65535 - t.plan.targets.length:Nat):Int):=by rw [zg (by omega) (by omega)];omega
  have hu5:IntKind.u64.wrap ((65535 - t.plan.targets.length:Nat):Int)=((65535 - t.plan.targets.length:Nat):Int):=zqd (by omega)
  have hp5:putS8 ((65535 - t.plan.targets.length:Nat):Int) 2=putN (65535 - t.plan.targets.length) 2:=by rw [putS8,if_neg (by omega)];rfl
  have hl8:=zP t.seq.toNat 8
  have hl2:=zP t.plan.targets.length 2
  have hl5:=zP (65535 - t.plan.targets.length) 2
  simp only [he]
  (have tk:=za zcF <| za zar <| za zcH <| za za6 <| za za3 <| za zav <| zb Tryz.prog);repeat' (first|((first|(refine sa ?_;intro K hK)|refine sb ?_);simp only [go_sem,aeq,aeq.aeqF,simprocAttr,hcmp,he,hu,hp8,hp2,List.length_append,hl8,hl2,Tryz.results184])|refine zj (fun K hK=>?_)|refine sc ?_|refine zi rfl (fun hc=>?_) (fun hc=>?_)|(refine hK _ ?_;clear hK K)|refine fun (nb:Bool) (hnb:nb=true→_)=>?_|with_reducible refine And.intro ?_ ?_|omega|assumption|refine fun (hg:(_:Bool)=(_:Bool))=>?_|clear hK K)
  have hB:(tbody t.plan).map strD=(trows t.plan.targets).map strD++t.plan.texts.map strD:=by rw [tbody,List.map_append]
  have hBl:(tbody t.plan).length=(trows t.plan.targets).length+t.plan.texts.length:=by rw [tbody,List.length_append]
  rw [← hB,← hBl]
  obtain ⟨B,hBe⟩:∃B,B=tbody t.plan:=⟨_,rfl⟩
  have hB64:∀s∈B,s.length=64:=by rw [hBe];exact zhu hf
  rw [← hBe] at hB hBl ⊢
  obtain ⟨H,hH⟩:∃H,H=putN t.seq.toNat 8++putN t.plan.targets.length 2:=⟨_,rfl⟩
  have hHl:H.length=10:=by rw [hH,List.length_append,hl8,hl2]
  rw [← hH]
  have hc0:0≤sumOf 0 H∧sumOf 0 H≤4294967295:=ze1 0 H (by omega) (by omega)
  refine zo (fun q: { k:Nat // k≤B.length } =>⟨[(1,true,.vp 0 0),(4,true,.d (.int .i64 t.plan.targets.length)),(5,true,.osl 1 1 B.length 0 B.length),(8,true,.d (.str H)),(9,true,.d (.int .u32 (tsum (sumOf 0 H) (B.take q.1)))),(10,true,.d (.int .i64 q.1))],[(1,.arr 1 (B.map strD)),(0,.var [.d (.int .u64 t.seq),.d (.sl 1 (t.plan.targets.map intD)),.d (.sl 1 (t.plan.texts.map strD))])],some []⟩) (fun q=>B.length - q.1) ⟨0,Nat.zero_le _⟩ le1 (fun q=>?_)
  obtain ⟨k,hk⟩:=q
  simp only at hk ⊢
  rcases zT strD B k hk with ⟨s,hq,hlt,hcmp,hrow,hdr,htk⟩|⟨hend,hcmp⟩
  ·simp only [strD] at hrow
   have hwi:=zp (i:=k) (by omega)
   have hsl:=hB64 s (List.mem_of_getElem? hq)
   have hcr:=zjj (B.take k) _ hc0.1 hc0.2
   have hsn:tsum (sumOf 0 H) (B.take (k+1))=sumOf (tsum (sumOf 0 H) (B.take k)) s:=by rw [htk,zkE]
   (have tk:=za zcF <| za zar <| za zcH <| za za6 <| za za3 <| za zav <| zb Tryz.prog;have fx:=(⟨hcmp,hrow,@Int.toNat_natCast⟩:_∧_∧_);repeat' (first|(refine hK _ ?_;clear hK K)|refine wa fun K hK=>?_|refine wb ?_|refine wc ?_ ?_|refine fun (nb:Bool) (hnb:nb=true→_)=>?_|exact we|refine fun (hc:_=(_:Bool))=>?_|clear hK K))
   exact ⟨⟨k+1,by omega⟩,by simp only [AS.le,leT,leH,zc,AsgK,AV.le,AV.leL,AObj.le,inH,idsT,idsH,AV.ids,AV.idsL,AV.idsR,AObj.ids,lk,hget,go_sem,aeq,aeq.aeqF,simprocAttr,hwi,hsn],by simp;omega⟩
  ·subst hend
   have hcr:=zjj B _ hc0.1 hc0.2
   have htt:B.take B.length=B:=List.take_length
   have hbl:=zcI (tsum (sumOf 0 H) B)
   (have tk:=za zcF <| za zar <| za zcH <| za za6 <| za za3 <| za zav <| zb Tryz.prog);repeat' (first|((first|(refine sa ?_;intro K hK)|refine sb ?_);simp only [go_sem,aeq,aeq.aeqF,simprocAttr,hcmp,hw5,hu5,hp5,List.length_append,hHl,hl5,hbl,List.length_cons,List.length_nil,htt,Tryz.results184])|refine zj (fun K hK=>?_)|refine sc ?_|refine zi rfl (fun hc=>?_) (fun hc=>?_)|(refine hK _ ?_;clear hK K)|refine fun (nb:Bool) (hnb:nb=true→_)=>?_|with_reducible refine And.intro ?_ ?_|omega|assumption|refine fun (hg:(_:Bool)=(_:Bool))=>?_|clear hK K)
   rw [if_pos (by omega),List.take_of_length_le (by simp;omega),zci,ttop,List.map_cons,thead,← hH,← hBe]
   rfl
@[go_sem] noncomputable def zbG:Ent Tryz.prog 184:= .m1 txA_T zoe
open Go Go.Proofs
theorem ztX (n size:Int) (hp:0≤n∧n<18446744073709551616):AC 255 [.d (.int .u64 n),.d (.int .i64 size)] (.d (.str (putS8 n size))):=by
 obtain ⟨h0,h1⟩:=hp
 refine bod Tryz.func255 Tryz.ntmps255 (fun base=>?_)
 (have tk:=za zce <| za zfl <| zb Tryz.prog;repeat' (first|(refine hK _ ?_;clear hK K)|refine wa fun K hK=>?_|refine wb ?_|refine wc ?_ ?_|exact we|clear hK K))
@[go_sem] noncomputable def zhE:Ent Tryz.prog 255:= .m2 (intT .u64) (intT .i64) ztX
theorem ztY (n size:Int) (hp:0≤n∧n<9223372036854775808):AC 256 [.d (.int .i64 n),.d (.int .i64 size)] (.d (.str (putS8 n size))):=by
 obtain ⟨h0,h1⟩:=hp
 refine bod Tryz.func256 Tryz.ntmps256 (fun base=>?_)
 have hw:IntKind.u64.wrap n=n:=zad (by omega) (by omega)
 (have tk:=za zce <| za zfl <| zb Tryz.prog;have fx:=hw;repeat' (first|(refine hK _ ?_;clear hK K)|refine wa fun K hK=>?_|refine wb ?_|refine wc ?_ ?_|exact we|clear hK K))
@[go_sem] noncomputable def zeo:Ent Tryz.prog 256:= .m2 (intT .i64) (intT .i64) ztY
theorem ztZ (s:Txt) (hs:s.length≤9223372036854775807):AC 258 [.d (.str s)] (.d (.str (padR s))):=by
 refine bod Tryz.func258 Tryz.ntmps258 (fun base=>?_)
 (have tk:=za zce <| za zfl <| zb Tryz.prog;repeat' (first|(refine hK _ ?_;clear hK K)|refine wa fun K hK=>?_|refine wb ?_|refine wc ?_ ?_|exact we|clear hK K))
 rfl
@[go_sem] noncomputable def zep:Ent Tryz.prog 258:= .m1 strT ztZ
def zb5 (l:List Int):List (List Int):=if l= [] then [] else if l.length≤16 then [l] else [l.take 16,l.drop 16]
def zaK (l:List Int):List AV:= [.d (.sl 1 (l.map intD))]
theorem zsp (l:List Int):ACall Tryz.prog 293 0 [.d (.sl 1 (l.map intD)),.d (.int .i64 16)] [] (fun r _=>r= .fn (.func 312) [] [.dp [.d (.sl 1 (l.map intD))],.dp [.d (.int .i64 16)]]):=by
 refine fbod Tryz.func293 Tryz.ntmps293 (fun base=>?_)
 (repeat' (first|(refine hK _ ?_;clear hK K)|refine wa fun K hK=>?_|refine wb ?_|refine wc ?_ ?_|refine fun (nb:Bool) (hnb:nb=true→_)=>?_|exact we|refine fun (hc:_=(_:Bool))=>?_|clear hK K))
@[go_sem] noncomputable def zoy:Ent Tryz.prog 293:= .ofL (consL (slT 1 intD zcy) (consL (zc6 (.d (.int .i64 16))) nilL)) (fun (l,_,_)=>True) (fun (l,_,_)=> .fn (.func 312) [] [.dp [.d (.sl 1 (l.map intD))],.dp [.d (.int .i64 16)]]) (fun (l,_,_) hp=>⟨rfl,zsp l⟩)
abbrev Cst (l:List Int):= { q:Nat×List (List AV) // (q.1=0∧q.2= [])∨(q.1=16∧0<l.length∧q.2= [zaK (l.take 16)])∨(q.1=32∧16<l.length∧q.2= [zaK (l.take 16),zaK (l.drop 16)]) }
theorem zkK (l:List Int) (hl:l.length≤24) (fl:Nat):AIter Tryz.prog 312 fl [] [.dp [.d (.sl 1 (l.map intD))],.dp [.d (.int .i64 16)]] [] ((zb5 l).map zaK) (fun g h'=>(∀xs,g=some xs→xs=(zb5 l).map zaK)∧h'= []):=by
 refine itr Tryz.func312 Tryz.ntmps312 (fun base y=>?_)
 (have tk:=zb Tryz.prog);repeat' (first|(refine zy (fun i=>decide (i<fl)) (by simp only [inH,idsH,hsel,AV.ids,AV.idsL,AV.idsR,AObj.ids,hget,go_sem,aeq,aeq.aeqF,simprocAttr]) ?_;simp only [go_sem,aeq,aeq.aeqF,simprocAttr,hsel,keepT];refine zH ?_;simp only [go_sem,aeq,aeq.aeqF,simprocAttr])|((first|(refine ya ?_;intro K hK)|refine yb ?_);simp only [go_sem,aeq,aeq.aeqF,simprocAttr])|refine zj (fun K hK=>?_)|refine sc ?_|refine zi rfl (fun hc=>?_) (fun hc=>?_)|(refine hK _ ?_;clear hK K)|((first|refine (show AS.le _ _ from ?_)|refine (show leH _ _ from ?_)|refine (show inH _ _ from ?_));simp only [AS.le,leT,leH,zc,AsgK,AV.le,AV.leL,AObj.le,inH,idsT,idsH,AV.ids,AV.idsL,AV.idsR,AObj.ids,lk,hget,go_sem,aeq,aeq.aeqF,simprocAttr])|refine fun (r2:Rnd _)=>?_|with_reducible refine And.intro ?_ ?_|exact ‹_<+:_› |(refine (show zV _ _=true from ?_);kernel_rfl)|omega|assumption|clear hK K)
 refine zo (fun q:Cst l=>⟨[(0,true,.fn (.yield y.yl) [] []),(1,true,.dp [.d (.sl 1 (l.map intD))]),(2,true,.dp [.d (.int .i64 16)]),(4,true,.d (.int .i64 q.1.1))],[],some q.1.2⟩) (fun q=>40 - q.1.1) ⟨(0,[]),.inl ⟨rfl,rfl⟩⟩ le1 (fun q=>?_)
 obtain ⟨⟨i,xs⟩,hi⟩:=q
 simp only at hi ⊢
 rcases hi with ⟨rfl,rfl⟩|⟨rfl,h0,rfl⟩|⟨rfl,h16,rfl⟩
 ·by_cases h:l= []
  ·subst h
   (have tk:=zb Tryz.prog);repeat' (first|(refine zy (fun i=>decide (i<fl)) (by simp only [inH,idsH,hsel,AV.ids,AV.idsL,AV.idsR,AObj.ids,hget,go_sem,aeq,aeq.aeqF,simprocAttr]) ?_;simp only [go_sem,aeq,aeq.aeqF,simprocAttr,hsel,keepT];refine zH ?_;simp only [go_sem,aeq,aeq.aeqF,simprocAttr])|((first|(refine ya ?_;intro K hK)|refine yb ?_);simp only [go_sem,aeq,aeq.aeqF,simprocAttr])|refine zj (fun K hK=>?_)|refine sc ?_|refine zi rfl (fun hc=>?_) (fun hc=>?_)|(refine hK _ ?_;clear hK K)|((first|refine (show AS.le _ _ from ?_)|refine (show leH _ _ from ?_)|refine (show inH _ _ from ?_));simp only [AS.le,leT,leH,zc,AsgK,AV.le,AV.leL,AObj.le,inH,idsT,idsH,AV.ids,AV.idsL,AV.idsR,AObj.ids,lk,hget,go_sem,aeq,aeq.aeqF,simprocAttr])|refine fun (r2:Rnd _)=>?_|with_reducible refine And.intro ?_ ?_|exact ‹_<+:_› |(refine (show zV _ _=true from ?_);kernel_rfl)|omega|assumption|clear hK K)
   rintro zs rfl
   rfl
  ·have hpos:0<l.length:=List.length_pos_iff.2 h
   have hcmp:decide ((0:Int)<(l.length:Int))=true:=decide_eq_true (by omega)
   obtain ⟨n,hn⟩:∃n,n=min 16 l.length:=⟨_,rfl⟩
   have hm:imin 16 (l.length:Int)=(n:Int):=by unfold imin;split<;>omega
   have hw:IntKind.i64.wrap (0+(n:Int))=n:=by rw [Int.zero_add];exact zg (by omega) (by omega)
   have ht:(l.map intD).take n=(l.take 16).map intD:=by
    rw [← List.map_take]
    rcases Nat.le_total l.length 16 with h2|h2
    ·rw [hn,Nat.min_eq_right h2,List.take_length,List.take_of_length_le h2]
    ·rw [hn,Nat.min_eq_left h2]
   have hc0:((0:Nat):Int)=0:=rfl
   have hz:(Int.toNat 0)=0:=rfl
   (have tk:=zb Tryz.prog);repeat' (first|(refine zy (fun i=>decide (i<fl)) (by simp only [inH,idsH,hsel,AV.ids,AV.idsL,AV.idsR,AObj.ids,hget,go_sem,aeq,aeq.aeqF,simprocAttr]) ?_;simp only [go_sem,aeq,aeq.aeqF,simprocAttr,hc0,hcmp,hm,hw,hz,Int.toNat_natCast,List.drop_zero,ht,hsel,keepT];refine zH ?_;simp only [go_sem,aeq,aeq.aeqF,simprocAttr,hc0,hcmp,hm,hw,hz,Int.toNat_natCast,List.drop_zero,ht])|((first|(refine ya ?_;intro K hK)|refine yb ?_);simp only [go_sem,aeq,aeq.aeqF,simprocAttr,hc0,hcmp,hm,hw,hz,Int.toNat_natCast,List.drop_zero,ht])|refine zj (fun K hK=>?_)|refine sc ?_|refine zi rfl (fun hc=>?_) (fun hc=>?_)|(refine hK _ ?_;clear hK K)|((first|refine (show AS.le _ _ from ?_)|refine (show leH _ _ from ?_)|refine (show inH _ _ from ?_));simp only [AS.le,leT,leH,zc,AsgK,AV.le,AV.leL,AObj.le,inH,idsT,idsH,AV.ids,AV.idsL,AV.idsR,AObj.ids,lk,hget,go_sem,aeq,aeq.aeqF,simprocAttr,hc0,hcmp,hm,hw,hz,Int.toNat_natCast,List.drop_zero,ht])|refine fun (r2:Rnd _)=>?_|with_reducible refine And.intro ?_ ?_|exact ‹_<+:_› |(refine (show zV _ _=true from ?_);kernel_rfl)|omega|assumption|clear hK K)
   ·unfold zb5
    rw [if_neg h]
    split
    ·rename_i h2
     rw [List.take_of_length_le h2]
     exact ⟨[],rfl⟩
    ·exact ⟨[zaK (l.drop 16)],rfl⟩
   ·have hw16:IntKind.i64.wrap 16=16:=by decide
    exact ⟨⟨(16,[zaK (l.take 16)]),.inr (.inl ⟨rfl,hpos,rfl⟩)⟩,by simp only [AS.le,leT,leH,zc,AsgK,AV.le,AV.leL,AObj.le,inH,idsT,idsH,AV.ids,AV.idsL,AV.idsR,AObj.ids,lk,hget,go_sem,aeq,aeq.aeqF,simprocAttr,hw16,zaK]<;>and_intros<;>rfl,by simp⟩
 ·rcases Nat.lt_or_ge 16 l.length with h16|h16
  ·have hcmp:decide ((16:Int)<(l.length:Int))=true:=decide_eq_true (by omega)
   obtain ⟨n,hn⟩:∃n,n=l.length - 16:=⟨_,rfl⟩
   have hdl:((l.drop 16).length:Int)=(n:Int):=by simp [hn]
   have hm:imin 16 (n:Int)=(n:Int):=by unfold imin;split<;>omega
   have hw:IntKind.i64.wrap (16+(n:Int))=((16+n:Nat):Int):=by rw [zg (by omega) (by omega)];omega
   have ht:(l.map intD).take (16+n)=l.map intD:=List.take_of_length_le (by simp;omega)
   have hmd:(l.map intD).drop 16=(l.drop 16).map intD:=by rw [← List.map_drop]
   have hc0:((16:Nat):Int)=16:=rfl
   have hz:(Int.toNat 16)=16:=rfl
   (have tk:=zb Tryz.prog);repeat' (first|(refine zy (fun i=>decide (i<fl)) (by simp only [inH,idsH,hsel,AV.ids,AV.idsL,AV.idsR,AObj.ids,hget,go_sem,aeq,aeq.aeqF,simprocAttr]) ?_;simp only [go_sem,aeq,aeq.aeqF,simprocAttr,hc0,hcmp,hm,hw,hz,hdl,Int.toNat_natCast,ht,hmd,hsel,keepT];refine zH ?_;simp only [go_sem,aeq,aeq.aeqF,simprocAttr,hc0,hcmp,hm,hw,hz,hdl,Int.toNat_natCast,ht,hmd])|((first|(refine ya ?_;intro K hK)|refine yb ?_);simp only [go_sem,aeq,aeq.aeqF,simprocAttr,hc0,hcmp,hm,hw,hz,hdl,Int.toNat_natCast,ht,hmd])|refine zj (fun K hK=>?_)|refine sc ?_|refine zi rfl (fun hc=>?_) (fun hc=>?_)|(refine hK _ ?_;clear hK K)|((first|refine (show AS.le _ _ from ?_)|refine (show leH _ _ from ?_)|refine (show inH _ _ from ?_));simp only [AS.le,leT,leH,zc,AsgK,AV.le,AV.leL,AObj.le,inH,idsT,idsH,AV.ids,AV.idsL,AV.idsR,AObj.ids,lk,hget,go_sem,aeq,aeq.aeqF,simprocAttr,hc0,hcmp,hm,hw,hz,hdl,Int.toNat_natCast,ht,hmd])|refine fun (r2:Rnd _)=>?_|with_reducible refine And.intro ?_ ?_|exact ‹_<+:_› |(refine (show zV _ _=true from ?_);kernel_rfl)|omega|assumption|clear hK K)
   ·unfold zb5
    rw [if_neg (by intro e;rw [e] at h16;simp at h16),if_neg (by omega)]
    exact ⟨[],rfl⟩
   ·have hw32:IntKind.i64.wrap 32=32:=by decide
    exact ⟨⟨(32,[zaK (l.take 16),zaK (l.drop 16)]),.inr (.inr ⟨rfl,h16,rfl⟩)⟩,by simp only [AS.le,leT,leH,zc,AsgK,AV.le,AV.leL,AObj.le,inH,idsT,idsH,AV.ids,AV.idsL,AV.idsR,AObj.ids,lk,hget,go_sem,aeq,aeq.aeqF,simprocAttr,hw32,zaK]<;>and_intros<;>rfl,by simp⟩
  ·have hcmp:decide ((16:Int)<(l.length:Int))=false:=decide_eq_false (by omega)
   have hc0:((16:Nat):Int)=16:=rfl
   (have tk:=zb Tryz.prog);repeat' (first|(refine zy (fun i=>decide (i<fl)) (by simp only [inH,idsH,hsel,AV.ids,AV.idsL,AV.idsR,AObj.ids,hget,go_sem,aeq,aeq.aeqF,simprocAttr]) ?_;simp only [go_sem,aeq,aeq.aeqF,simprocAttr,hc0,hcmp,hsel,keepT];refine zH ?_;simp only [go_sem,aeq,aeq.aeqF,simprocAttr,hc0,hcmp])|((first|(refine ya ?_;intro K hK)|refine yb ?_);simp only [go_sem,aeq,aeq.aeqF,simprocAttr,hc0,hcmp])|refine zj (fun K hK=>?_)|refine sc ?_|refine zi rfl (fun hc=>?_) (fun hc=>?_)|(refine hK _ ?_;clear hK K)|((first|refine (show AS.le _ _ from ?_)|refine (show leH _ _ from ?_)|refine (show inH _ _ from ?_));simp only [AS.le,leT,leH,zc,AsgK,AV.le,AV.leL,AObj.le,inH,idsT,idsH,AV.ids,AV.idsL,AV.idsR,AObj.ids,lk,hget,go_sem,aeq,aeq.aeqF,simprocAttr,hc0,hcmp])|refine fun (r2:Rnd _)=>?_|with_reducible refine And.intro ?_ ?_|exact ‹_<+:_› |(refine (show zV _ _=true from ?_);kernel_rfl)|omega|assumption|clear hK K)
   rintro zs rfl
   unfold zb5
   rw [if_neg (by intro e;rw [e] at h0;simp at h0),if_pos h16,List.take_of_length_le h16]
   rfl
 ·have hcmp:decide ((32:Int)<(l.length:Int))=false:=decide_eq_false (by omega)
  have hc0:((32:Nat):Int)=32:=rfl
  (have tk:=zb Tryz.prog);repeat' (first|(refine zy (fun i=>decide (i<fl)) (by simp only [inH,idsH,hsel,AV.ids,AV.idsL,AV.idsR,AObj.ids,hget,go_sem,aeq,aeq.aeqF,simprocAttr]) ?_;simp only [go_sem,aeq,aeq.aeqF,simprocAttr,hc0,hcmp,hsel,keepT];refine zH ?_;simp only [go_sem,aeq,aeq.aeqF,simprocAttr,hc0,hcmp])|((first|(refine ya ?_;intro K hK)|refine yb ?_);simp only [go_sem,aeq,aeq.aeqF,simprocAttr,hc0,hcmp])|refine zj (fun K hK=>?_)|refine sc ?_|refine zi rfl (fun hc=>?_) (fun hc=>?_)|(refine hK _ ?_;clear hK K)|((first|refine (show AS.le _ _ from ?_)|refine (show leH _ _ from ?_)|refine (show inH _ _ from ?_));simp only [AS.le,leT,leH,zc,AsgK,AV.le,AV.leL,AObj.le,inH,idsT,idsH,AV.ids,AV.idsL,AV.idsR,AObj.ids,lk,hget,go_sem,aeq,aeq.aeqF,simprocAttr,hc0,hcmp])|refine fun (r2:Rnd _)=>?_|with_reducible refine And.intro ?_ ?_|exact ‹_<+:_› |(refine (show zV _ _=true from ?_);kernel_rfl)|omega|assumption|clear hK K)
  rintro zs rfl
  unfold zb5
  rw [if_neg (by intro e;rw [e] at h16;simp at h16),if_neg (by omega)]
  rfl
open Go Go.Proofs
def bItem (s:Txt):List AV:= [.d (.str s)]
def unC (x:List AV):List AV:=
 match x with
 | [.d (.sl _ rows)]=>bItem (padR (encT (rows.map fun r=>match r with| [.int _ n]=>n|_=>0)))
 |_=> []
theorem zns (c:List Int):unC (zaK c)=bItem (padR (encT c)):=by
 simp only [unC,zaK,List.map_map]
 have:((fun r:List D=>match r with| [.int _ n]=>n|_=>(0:Int)) ∘ intD)=id:=rfl
 rw [this,List.map_id]
theorem zmf (l:List (List Int)):(l.map zaK).map unC=l.map (fun c=>bItem (padR (encT c))):=by
 rw [List.map_map]
 exact List.map_congr_left (fun c _=>zns c)
theorem zmg {l:List Int} (h:l≠ []):trows l=(zb5 l).map (fun c=>padR (encT c)):=by
 unfold trows zb5
 rw [if_neg h]
 split<;>rfl
theorem zhF {p:Plan} (h:p.targets≠ []):(tbody p).map bItem=(zb5 p.targets).map (fun c=>bItem (padR (encT c)))++p.texts.map bItem:=by
 rw [tbody,zmg h,List.map_append,List.map_map]
 rfl
theorem zmh {l c:List Int} (h:c∈zb5 l) (hl:l.length≤24):c.length≤16∧∀t∈c,t∈l:=by
 unfold zb5 at h
 split at h
 ·cases h
 split at h
 ·rename_i h1 h2
  obtain rfl:c=l:=by simpa using h
  exact ⟨h2,fun t ht=>ht⟩
 ·rcases List.mem_cons.1 h with rfl|h
  ·exact ⟨by simp;omega,fun t ht=>List.mem_of_mem_take ht⟩
  ·obtain rfl:c=l.drop 16:=by simpa using h
   exact ⟨by simp;omega,fun t ht=>List.mem_of_mem_drop ht⟩
theorem zt0:liesAt Tryz.prog Tryz.prog.depth 237 (2 / Tryz.prog.cellsOf 237) 0 237 1=true:=by kernel_rfl
theorem zjw (p:Plan) (hp:PlanOk p) (h24:p.targets.length≤24) (hne:p.targets≠ []) (hr:∀t∈p.targets,0≤t∧t<1024):AIter Tryz.prog 292 100 [] [.dp [.d (.sl 1 (p.targets.map intD)),.d (.sl 1 (p.texts.map strD))]] [] ((tbody p).map bItem) (fun g h'=>(∀xs,g=some xs→xs=(tbody p).map bItem)∧h'= []):=by
 refine itr Tryz.func292 Tryz.ntmps292 (fun base y=>?_)
 refine zhi ?_
 (have tk:=za zoy <| zb Tryz.prog);repeat' (first|(refine zy (fun i=>decide (i<100)) (by simp only [inH,idsH,hsel,AV.ids,AV.idsL,AV.idsR,AObj.ids,hget,go_sem,aeq,aeq.aeqF,simprocAttr]) ?_;simp only [go_sem,aeq,aeq.aeqF,simprocAttr,hsel,keepT];refine zH ?_;simp only [go_sem,aeq,aeq.aeqF,simprocAttr])|((first|(refine ya ?_;intro K hK)|refine yb ?_);simp only [go_sem,aeq,aeq.aeqF,simprocAttr])|refine zj (fun K hK=>?_)|refine sc ?_|refine zi rfl (fun hc=>?_) (fun hc=>?_)|(refine hK _ ?_;clear hK K)|((first|refine (show AS.le _ _ from ?_)|refine (show leH _ _ from ?_)|refine (show inH _ _ from ?_));simp only [AS.le,leT,leH,zc,AsgK,AV.le,AV.leL,AObj.le,inH,idsT,idsH,AV.ids,AV.idsL,AV.idsR,AObj.ids,lk,hget,go_sem,aeq,aeq.aeqF,simprocAttr])|refine fun (r2:Rnd _)=>?_|with_reducible refine And.intro ?_ ?_|exact ‹_<+:_› |(refine (show zV _ _=true from ?_);kernel_rfl)|omega|assumption|clear hK K)
 obtain ⟨I,hI⟩:∃I:List (List AV)→AHeap×Option (List (List AV)),I=fun xs=>([(100,.var [.fn (.yield y.yl) [] []])],some (xs.map unC)):=⟨_,rfl⟩
 obtain ⟨G,hG⟩:∃G:List (List AV)→Prop,G=fun _=>True:=⟨_,rfl⟩
 obtain ⟨J,hJ⟩:∃J:Code→AHeap→Option (List (List AV))→Prop,J=fun c h g=>c= .ret∧h= [(100,.var [.fn (.yield y.yl) [] []])]∧g=none:=⟨_,rfl⟩
 refine zch 200 G I J (zkK p.targets h24 200) (by simp only [go_sem,aeq,aeq.aeqF,simprocAttr]) rfl (zap rfl) (by simp [cxOf,cxY]) rfl (by rw [hG];first|trivial|rfl|simp) (by rw [hI];simp only [AS.le,leT,leH,zc,AsgK,AV.le,AV.leL,AObj.le,inH,idsT,idsH,AV.ids,AV.idsL,AV.idsR,AObj.ids,lk,hget,go_sem,aeq,aeq.aeqF,simprocAttr]<;>simp [AV.leL,AV.le]) (by rw [hI];simp only [AS.le,leT,leH,zc,AsgK,AV.le,AV.leL,AObj.le,inH,idsT,idsH,AV.ids,AV.idsL,AV.idsR,AObj.ids,lk,hget,go_sem,aeq,aeq.aeqF,simprocAttr]<;>simp) (by rw [hI]<;>rfl) (by intro x hx;obtain ⟨q,_,rfl⟩:=List.mem_map.1 hx;rfl) (by intro t ht;simp at ht;first|(rcases ht with rfl|rfl<;>simp [cxOf,cxY]<;>done)|(subst ht;simp [cxOf,cxY])) ?_ ?_ ?_
 ·intro xs x hpre hgd l1 r1
  obtain ⟨ys,c,zs,rfl,rfl,hzl⟩:=zeg hpre
  have hcm:c∈zb5 p.targets:=by rw [hzl];simp
  obtain ⟨hc16,hcr⟩:=zmh hcm h24
  have hit:(ys.map (fun c=>bItem (padR (encT c)))++ [bItem (padR (encT c))])<+:(tbody p).map bItem:=by
   rw [zhF hne,hzl,List.map_append,List.map_cons]
   exact ⟨zs.map (fun c=>bItem (padR (encT c)))++p.texts.map bItem,by simp⟩
  simp only [zaK]
  refine aw_le ⟨[(12,true,.d (.sl 1 (c.map intD))),(2,true,.vp 100 0)],[(100,.var [.fn (.yield y.yl) [] []])],some (ys.map (fun c=>bItem (padR (encT c))))⟩ (by rw [hI];simp only [zmf];simp only [AS.le,leT,leH,zc,AsgK,AV.le,AV.leL,AObj.le,inH,idsT,idsH,AV.ids,AV.idsL,AV.idsR,AObj.ids,lk,hget,go_sem,aeq,aeq.aeqF,simprocAttr]) ?_
  (have tk:=zb Tryz.prog);repeat' (first|(refine zy (fun i=>decide (i<200)) (by simp only [inH,idsH,hsel,AV.ids,AV.idsL,AV.idsR,AObj.ids,hget,go_sem,aeq,aeq.aeqF,simprocAttr]) ?_;simp only [go_sem,aeq,aeq.aeqF,simprocAttr,hI,hsel,keepT];refine zH ?_;simp only [go_sem,aeq,aeq.aeqF,simprocAttr,hI])|((first|(refine ya ?_;intro K hK)|refine yb ?_);simp only [go_sem,aeq,aeq.aeqF,simprocAttr,hI])|refine zj (fun K hK=>?_)|refine sc ?_|refine zi rfl (fun hc=>?_) (fun hc=>?_)|(refine hK _ ?_;clear hK K)|((first|refine (show AS.le _ _ from ?_)|refine (show leH _ _ from ?_)|refine (show inH _ _ from ?_));simp only [AS.le,leT,leH,zc,AsgK,AV.le,AV.leL,AObj.le,inH,idsT,idsH,AV.ids,AV.idsL,AV.idsR,AObj.ids,lk,hget,go_sem,aeq,aeq.aeqF,simprocAttr,hI])|refine fun (r2:Rnd _)=>?_|with_reducible refine And.intro ?_ ?_|exact ‹_<+:_› |(refine (show zV _ _=true from ?_);kernel_rfl)|omega|assumption|clear hK K)
  refine zqx 200 1 rfl rfl ?_
  simp only [go_sem,aeq,aeq.aeqF,simprocAttr]
  refine zo (fun q: { i:Nat // i≤c.length } =>⟨[(2,true,.vp 100 0),(4,true,.tp 200 0),(13,true,.d (.sl 1 (c.map intD))),(14,true,.d (.int .i64 c.length)),(15,true,.d (.int .i64 q.1))],[(201,.buf 5 (encT (c.take q.1))),(200,.tvar 237 [if q.1=0 then .d .nilp else .tp 200 0,.bsl 201 (encT (c.take q.1)).length]),(100,.var [.fn (.yield y.yl) [] []])],some (ys.map (fun c=>bItem (padR (encT c))))⟩) (fun q=>c.length - q.1) ⟨0,Nat.zero_le _⟩ (by simp only [AS.le,leT,leH,zc,AsgK,AV.le,AV.leL,AObj.le,inH,idsT,idsH,AV.ids,AV.idsL,AV.idsR,AObj.ids,lk,hget,go_sem,aeq,aeq.aeqF,simprocAttr,if_true,List.take_zero]<;>and_intros<;>rfl) (fun q=>?_)
  obtain ⟨i,hi⟩:=q
  simp only at hi ⊢
  rcases zT intD c i hi with ⟨t,hq,hlt,hcmp,hrow,hdr,htk⟩|⟨hend,hcmp⟩
  ·simp only [intD] at hrow
   have hwi:=zp (i:=i) (by omega)
   obtain ⟨ht0,ht1⟩:=hr t (hcr t (List.mem_of_getElem? hq))
   have hel:(encT (c.take i)).length≤64:=by rw [zdS,List.length_take];omega
   have hpl:putS8 t 4=putN t.toNat 4:=rfl
   have hpn:(putN t.toNat 4).length=4:=zP _ _
   have hsn:encT (c.take (i+1))=encT (c.take i)++putN t.toNat 4:=by rw [htk,zht]
   (have tk:=za zeo <| za zep <| zb Tryz.prog);repeat' (first|(refine zy (fun i=>decide (i<200)) (by simp only [inH,idsH,hsel,AV.ids,AV.idsL,AV.idsR,AObj.ids,hget,go_sem,aeq,aeq.aeqF,simprocAttr]) ?_;simp only [go_sem,aeq,aeq.aeqF,simprocAttr,hcmp,hrow,hpl,hsel,keepT];refine zH ?_;simp only [go_sem,aeq,aeq.aeqF,simprocAttr,hcmp,hrow,hpl])|((first|(refine ya ?_;intro K hK)|refine yb ?_);simp only [go_sem,aeq,aeq.aeqF,simprocAttr,hcmp,hrow,hpl])|refine zj (fun K hK=>?_)|refine sc ?_|refine zi rfl (fun hc=>?_) (fun hc=>?_)|(refine hK _ ?_;clear hK K)|((first|refine (show AS.le _ _ from ?_)|refine (show leH _ _ from ?_)|refine (show inH _ _ from ?_));simp only [AS.le,leT,leH,zc,AsgK,AV.le,AV.leL,AObj.le,inH,idsT,idsH,AV.ids,AV.idsL,AV.idsR,AObj.ids,lk,hget,go_sem,aeq,aeq.aeqF,simprocAttr,hcmp,hrow,hpl])|refine fun (r2:Rnd _)=>?_|with_reducible refine And.intro ?_ ?_|exact ‹_<+:_› |(refine (show zV _ _=true from ?_);kernel_rfl)|omega|assumption|clear hK K)
   refine (zso (i:=200) (j:=201) (o:=0) (T:=237) (cs:= [if i=0 then .d .nilp else .tp 200 0,.bsl 201 (encT (c.take i)).length]) (xs:=encT (c.take i)) rfl (by by_cases h0:i=0<;>simp [h0]) rfl rfl rfl zt0 (by omega)).mono ?_
   rintro r h' ⟨rfl,rfl⟩
   (have tk:=zb Tryz.prog);repeat' (first|(refine zy (fun i=>decide (i<200)) (by simp only [inH,idsH,hsel,AV.ids,AV.idsL,AV.idsR,AObj.ids,hget,go_sem,aeq,aeq.aeqF,simprocAttr]) ?_;simp only [go_sem,aeq,aeq.aeqF,simprocAttr,hsel,keepT];refine zH ?_;simp only [go_sem,aeq,aeq.aeqF,simprocAttr])|((first|(refine ya ?_;intro K hK)|refine yb ?_);simp only [go_sem,aeq,aeq.aeqF,simprocAttr])|refine zj (fun K hK=>?_)|refine sc ?_|refine zi rfl (fun hc=>?_) (fun hc=>?_)|(refine hK _ ?_;clear hK K)|((first|refine (show AS.le _ _ from ?_)|refine (show leH _ _ from ?_)|refine (show inH _ _ from ?_));simp only [AS.le,leT,leH,zc,AsgK,AV.le,AV.leL,AObj.le,inH,idsT,idsH,AV.ids,AV.idsL,AV.idsR,AObj.ids,lk,hget,go_sem,aeq,aeq.aeqF,simprocAttr])|refine fun (r2:Rnd _)=>?_|with_reducible refine And.intro ?_ ?_|exact ‹_<+:_› |(refine (show zV _ _=true from ?_);kernel_rfl)|omega|assumption|clear hK K)
   have hif:(if i+1=0 then AV.d .nilp else AV.tp 200 0)= .tp 200 0:=if_neg (by omega)
   exact ⟨⟨i+1,by omega⟩,by simp only [AS.le,leT,leH,zc,AsgK,AV.le,AV.leL,AObj.le,inH,idsT,idsH,AV.ids,AV.idsL,AV.idsR,AObj.ids,lk,hget,go_sem,aeq,aeq.aeqF,simprocAttr,hwi,hsn,hif,List.length_append],by simp;omega⟩
  ·have htk:c.take i=c:=by rw [hend,List.take_length]
   rw [htk]
   have hel:(encT c).length≤64:=by rw [zdS];omega
   obtain ⟨x0,hx0⟩:∃x0,x0=(if i=0 then AV.d .nilp else AV.tp 200 0):=⟨_,rfl⟩
   rw [← hx0]
   (have tk:=zb Tryz.prog);repeat' ((fail_if_success refine hds 9 (by rfl) ?_);first|(refine zy (fun i=>decide (i<200)) (by simp only [inH,idsH,hsel,AV.ids,AV.idsL,AV.idsR,AObj.ids,hget,go_sem,aeq,aeq.aeqF,simprocAttr]) ?_;simp only [go_sem,aeq,aeq.aeqF,simprocAttr,hcmp,hsel,keepT];refine zH ?_;simp only [go_sem,aeq,aeq.aeqF,simprocAttr,hcmp])|((first|(refine ya ?_;intro K hK)|refine yb ?_);simp only [go_sem,aeq,aeq.aeqF,simprocAttr,hcmp])|refine zj (fun K hK=>?_)|refine sc ?_|refine zi rfl (fun hc=>?_) (fun hc=>?_)|(refine hK _ ?_;clear hK K)|((first|refine (show AS.le _ _ from ?_)|refine (show leH _ _ from ?_)|refine (show inH _ _ from ?_));simp only [AS.le,leT,leH,zc,AsgK,AV.le,AV.leL,AObj.le,inH,idsT,idsH,AV.ids,AV.idsL,AV.idsR,AObj.ids,lk,hget,go_sem,aeq,aeq.aeqF,simprocAttr,hcmp])|refine fun (r2:Rnd _)=>?_|with_reducible refine And.intro ?_ ?_|exact ‹_<+:_› |(refine (show zV _ _=true from ?_);kernel_rfl)|omega|assumption|clear hK K)
   have hh:HotOk Tryz.prog 200 (hotOf noHot 180 [.tp 200 0] [(201,.buf 5 (encT c)),(200,.tvar 237 [x0,.bsl 201 (encT c).length]),(100,.var [.fn (.yield y.yl) [] []])] (.d (.str (encT c))) [(201,.buf 5 gone),(200,.tvar 237 [x0,.bsl 201 (encT c).length]),(100,.var [.fn (.yield y.yl) [] []])]):=
    zm6 (zm5 _ _) (fun K hK=>(zqw (i:=200) (j:=201) (o:=0) (T:=237) (cs:= [x0,.bsl 201 (encT c).length]) (xs:=encT c) rfl rfl rfl rfl (by omega)).mono (by rintro r h' ⟨rfl,rfl⟩;exact hK))
   refine zj (fun K2 hK2=>zi7 _ _ (za zeo <| za zep <| zb Tryz.prog) hh (by kernel_rfl) ?_)
   clear hh
   have hKT:∀s',s'.le ⟨[(27,true,.d (.bool false))],[(100,.var [.fn (.yield y.yl) [] []])],some (ys.map (fun c=>bItem (padR (encT c)))++ [[.d (.str (padR (encT c)))]])⟩→K2 s':=fun s' hle=>hK2 _ (aw_le _ hle (by
    (have tk:=zb Tryz.prog);repeat' (first|(refine zy (fun i=>decide (i<200)) (by simp only [inH,idsH,hsel,AV.ids,AV.idsL,AV.idsR,AObj.ids,hget,go_sem,aeq,aeq.aeqF,simprocAttr]) ?_;simp only [go_sem,aeq,aeq.aeqF,simprocAttr,hI,hsel,keepT];refine zH ?_;simp only [go_sem,aeq,aeq.aeqF,simprocAttr,hI])|((first|(refine ya ?_;intro K hK)|refine yb ?_);simp only [go_sem,aeq,aeq.aeqF,simprocAttr,hI])|refine zj (fun K hK=>?_)|refine sc ?_|refine zi rfl (fun hc=>?_) (fun hc=>?_)|(refine hK _ ?_;clear hK K)|((first|refine (show AS.le _ _ from ?_)|refine (show leH _ _ from ?_)|refine (show inH _ _ from ?_));simp only [AS.le,leT,leH,zc,AsgK,AV.le,AV.leL,AObj.le,inH,idsT,idsH,AV.ids,AV.idsL,AV.idsR,AObj.ids,lk,hget,go_sem,aeq,aeq.aeqF,simprocAttr,hI])|refine fun (r2:Rnd _)=>?_|with_reducible refine And.intro ?_ ?_|exact ‹_<+:_› |(refine (show zV _ _=true from ?_);kernel_rfl)|omega|assumption|clear hK K)
    ·rw [hG];trivial
    ·rw [List.map_append,zmf,List.map_singleton,show unC [AV.d (.sl 1 (c.map intD))]= [.d (.str (padR (encT c)))] from zns c]))
   have hKF:∀s',s'.le ⟨[(27,true,.d (.bool true))],[(100,.var [.fn (.yield y.yl) [] []])],none⟩→K2 s':=fun s' hle=>hK2 _ (aw_le _ hle (by
    (have tk:=zb Tryz.prog);repeat' (first|(refine zy (fun i=>decide (i<200)) (by simp only [inH,idsH,hsel,AV.ids,AV.idsL,AV.idsR,AObj.ids,hget,go_sem,aeq,aeq.aeqF,simprocAttr]) ?_;simp only [go_sem,aeq,aeq.aeqF,simprocAttr,hI,hsel,keepT];refine zH ?_;simp only [go_sem,aeq,aeq.aeqF,simprocAttr,hI])|((first|(refine ya ?_;intro K hK)|refine yb ?_);simp only [go_sem,aeq,aeq.aeqF,simprocAttr,hI])|refine zj (fun K hK=>?_)|refine sc ?_|refine zi rfl (fun hc=>?_) (fun hc=>?_)|(refine hK _ ?_;clear hK K)|((first|refine (show AS.le _ _ from ?_)|refine (show leH _ _ from ?_)|refine (show inH _ _ from ?_));simp only [AS.le,leT,leH,zc,AsgK,AV.le,AV.leL,AObj.le,inH,idsT,idsH,AV.ids,AV.idsL,AV.idsR,AObj.ids,lk,hget,go_sem,aeq,aeq.aeqF,simprocAttr,hI])|refine fun (r2:Rnd _)=>?_|with_reducible refine And.intro ?_ ?_|exact ‹_<+:_› |(refine (show zV _ _=true from ?_);kernel_rfl)|omega|assumption|clear hK K)
    ·rw [hJ];exact ⟨rfl,rfl,rfl⟩))
   have hit':(ys.map (fun c=>bItem (padR (encT c)))++ [[.d (.str (padR (encT c)))]])<+:(tbody p).map bItem:=hit
   clear hK2 hit
   simp only [go_sem,aeq,aeq.aeqF,simprocAttr]
   repeat' (with_reducible refine And.intro ?_ ?_)
   all_goals first|omega|exact hit'|(refine hKT _ ?_;(simp only [AS.le,leT,leH,zc,AsgK,AV.le,AV.leL,AObj.le,inH,idsT,idsH,AV.ids,AV.idsL,AV.idsR,AObj.ids,lk,hget,go_sem,aeq,aeq.aeqF,simprocAttr]);done)|(refine hKF _ ?_;(simp only [AS.le,leT,leH,zc,AsgK,AV.le,AV.leL,AObj.le,inH,idsT,idsH,AV.ids,AV.idsL,AV.idsR,AObj.ids,lk,hget,go_sem,aeq,aeq.aeqF,simprocAttr]);done)
 ·intro _
  rw [hI]
  simp only [zmf]
  obtain ⟨B,hB⟩:∃B,B=(zb5 p.targets).map (fun c=>bItem (padR (encT c))):=⟨_,rfl⟩
  have hall:(tbody p).map bItem=B++p.texts.map bItem:=by rw [hB];exact zhF hne
  rw [← hB]
  (have tk:=zb Tryz.prog);repeat' (first|(refine zy (fun i=>decide (i<100)) (by simp only [inH,idsH,hsel,AV.ids,AV.idsL,AV.idsR,AObj.ids,hget,go_sem,aeq,aeq.aeqF,simprocAttr]) ?_;simp only [go_sem,aeq,aeq.aeqF,simprocAttr,hsel,keepT];refine zH ?_;simp only [go_sem,aeq,aeq.aeqF,simprocAttr])|((first|(refine ya ?_;intro K hK)|refine yb ?_);simp only [go_sem,aeq,aeq.aeqF,simprocAttr])|refine zj (fun K hK=>?_)|refine sc ?_|refine zi rfl (fun hc=>?_) (fun hc=>?_)|(refine hK _ ?_;clear hK K)|((first|refine (show AS.le _ _ from ?_)|refine (show leH _ _ from ?_)|refine (show inH _ _ from ?_));simp only [AS.le,leT,leH,zc,AsgK,AV.le,AV.leL,AObj.le,inH,idsT,idsH,AV.ids,AV.idsL,AV.idsR,AObj.ids,lk,hget,go_sem,aeq,aeq.aeqF,simprocAttr])|refine fun (r2:Rnd _)=>?_|with_reducible refine And.intro ?_ ?_|exact ‹_<+:_› |(refine (show zV _ _=true from ?_);kernel_rfl)|omega|assumption|clear hK K)
  have htx:=hp.texts
  refine zo (fun q: { i:Nat // i≤p.texts.length } =>⟨[(2,true,.vp 100 0),(29,true,.d (.sl 1 (p.texts.map strD))),(30,true,.d (.int .i64 p.texts.length)),(31,true,.d (.int .i64 q.1))],[(100,.var [.fn (.yield y.yl) [] []])],some (B++(p.texts.take q.1).map bItem)⟩) (fun q=>p.texts.length - q.1) ⟨0,Nat.zero_le _⟩ (by simp only [AS.le,leT,leH,zc,AsgK,AV.le,AV.leL,AObj.le,inH,idsT,idsH,AV.ids,AV.idsL,AV.idsR,AObj.ids,lk,hget,go_sem,aeq,aeq.aeqF,simprocAttr]<;>simp) (fun q=>?_)
  obtain ⟨i,hi⟩:=q
  simp only at hi ⊢
  rcases zT strD p.texts i hi with ⟨s,hq,hlt,hcmp,hrow,hdr,htk⟩|⟨hend,hcmp⟩
  ·simp only [strD] at hrow
   have hwi:=zp (i:=i) (by omega)
   have hpr:((B++(p.texts.take i).map bItem)++ [[.d (.str s)]])<+:(tbody p).map bItem:=by
    rw [hall]
    refine ⟨(p.texts.drop (i+1)).map bItem,?_⟩
    have h1:=List.take_append_drop i p.texts
    rw [hdr] at h1
    conv=>rhs;rw [← h1]
    simp [bItem]
   (have tk:=zb Tryz.prog);repeat' (first|(refine zy (fun i=>decide (i<100)) (by simp only [inH,idsH,hsel,AV.ids,AV.idsL,AV.idsR,AObj.ids,hget,go_sem,aeq,aeq.aeqF,simprocAttr]) ?_;simp only [go_sem,aeq,aeq.aeqF,simprocAttr,hcmp,hrow,hsel,keepT];refine zH ?_;simp only [go_sem,aeq,aeq.aeqF,simprocAttr,hcmp,hrow])|((first|(refine ya ?_;intro K hK)|refine yb ?_);simp only [go_sem,aeq,aeq.aeqF,simprocAttr,hcmp,hrow])|refine zj (fun K hK=>?_)|refine sc ?_|refine zi rfl (fun hc=>?_) (fun hc=>?_)|(refine hK _ ?_;clear hK K)|((first|refine (show AS.le _ _ from ?_)|refine (show leH _ _ from ?_)|refine (show inH _ _ from ?_));simp only [AS.le,leT,leH,zc,AsgK,AV.le,AV.leL,AObj.le,inH,idsT,idsH,AV.ids,AV.idsL,AV.idsR,AObj.ids,lk,hget,go_sem,aeq,aeq.aeqF,simprocAttr,hcmp,hrow])|refine fun (r2:Rnd _)=>?_|with_reducible refine And.intro ?_ ?_|exact ‹_<+:_› |(refine (show zV _ _=true from ?_);kernel_rfl)|omega|assumption|clear hK K)
   exact ⟨⟨i+1,by omega⟩,by simp only [AS.le,leT,leH,zc,AsgK,AV.le,AV.leL,AObj.le,inH,idsT,idsH,AV.ids,AV.idsL,AV.idsR,AObj.ids,lk,hget,go_sem,aeq,aeq.aeqF,simprocAttr,hwi,htk,List.map_append,List.append_assoc,bItem,List.map_singleton],by simp;omega⟩
  ·(have tk:=zb Tryz.prog);repeat' (first|(refine zy (fun i=>decide (i<100)) (by simp only [inH,idsH,hsel,AV.ids,AV.idsL,AV.idsR,AObj.ids,hget,go_sem,aeq,aeq.aeqF,simprocAttr]) ?_;simp only [go_sem,aeq,aeq.aeqF,simprocAttr,hcmp,hsel,keepT];refine zH ?_;simp only [go_sem,aeq,aeq.aeqF,simprocAttr,hcmp])|((first|(refine ya ?_;intro K hK)|refine yb ?_);simp only [go_sem,aeq,aeq.aeqF,simprocAttr,hcmp])|refine zj (fun K hK=>?_)|refine sc ?_|refine zi rfl (fun hc=>?_) (fun hc=>?_)|(refine hK _ ?_;clear hK K)|((first|refine (show AS.le _ _ from ?_)|refine (show leH _ _ from ?_)|refine (show inH _ _ from ?_));simp only [AS.le,leT,leH,zc,AsgK,AV.le,AV.leL,AObj.le,inH,idsT,idsH,AV.ids,AV.idsL,AV.idsR,AObj.ids,lk,hget,go_sem,aeq,aeq.aeqF,simprocAttr,hcmp])|refine fun (r2:Rnd _)=>?_|with_reducible refine And.intro ?_ ?_|exact ‹_<+:_› |(refine (show zV _ _=true from ?_);kernel_rfl)|omega|assumption|clear hK K)
   rintro zs rfl
   rw [hall,hend,List.take_length]
 ·rw [hJ]
  rintro c h3 g3 ⟨rfl,rfl,rfl⟩
  (have tk:=zb Tryz.prog);repeat' (first|(refine zy (fun i=>decide (i<100)) (by simp only [inH,idsH,hsel,AV.ids,AV.idsL,AV.idsR,AObj.ids,hget,go_sem,aeq,aeq.aeqF,simprocAttr]) ?_;simp only [go_sem,aeq,aeq.aeqF,simprocAttr,hsel,keepT];refine zH ?_;simp only [go_sem,aeq,aeq.aeqF,simprocAttr])|((first|(refine ya ?_;intro K hK)|refine yb ?_);simp only [go_sem,aeq,aeq.aeqF,simprocAttr])|refine zj (fun K hK=>?_)|refine sc ?_|refine zi rfl (fun hc=>?_) (fun hc=>?_)|(refine hK _ ?_;clear hK K)|((first|refine (show AS.le _ _ from ?_)|refine (show leH _ _ from ?_)|refine (show inH _ _ from ?_));simp only [AS.le,leT,leH,zc,AsgK,AV.le,AV.leL,AObj.le,inH,idsT,idsH,AV.ids,AV.idsL,AV.idsR,AObj.ids,lk,hget,go_sem,aeq,aeq.aeqF,simprocAttr])|refine fun (r2:Rnd _)=>?_|with_reducible refine And.intro ?_ ?_|exact ‹_<+:_› |(refine (show zV _ _=true from ?_);kernel_rfl)|omega|assumption|clear hK K)
open Go Go.Proofs
theorem zqy (p:Plan) (_:True):AC 257 [planA p] (.fn (.func 292) [] [.dp [.d (.sl 1 (p.targets.map intD)),.d (.sl 1 (p.texts.map strD))]]):=by
 refine fbod Tryz.func257 Tryz.ntmps257 (fun base=>?_)
 (repeat' (first|(refine hK _ ?_;clear hK K)|refine wa fun K hK=>?_|refine wb ?_|refine wc ?_ ?_|refine fun (nb:Bool) (hnb:nb=true→_)=>?_|exact we|clear hK K))
@[go_sem] noncomputable def ze4:Ent Tryz.prog 257:= .m1 zw zqy
@[simp] theorem tsum_nil (c:Int):tsum c []=c:=rfl
def unB (x:List AV):Txt:=match x with| [.d (.str s)]=>s|_=> []
theorem zmi (l:List Txt):(l.map bItem).map unB=l:=by
 rw [List.map_map]
 conv=>rhs;rw [← List.map_id l]
 exact List.map_congr_left (fun c _=>rfl)
theorem zmj (t:Tx) (hp:PlanOk t.plan∧pfit t.plan=true∧t.plan.targets.length≠0∧0≤t.seq∧t.seq<18446744073709551616):AC 206 [txA t] (.tup [.d (.sl 1 ((zci t.seq t.plan).map strD)),.d (.int .i64 0)]):=by
 obtain ⟨hp,hf,hn,h0,h1⟩:=hp
 refine fbod Tryz.func206 Tryz.ntmps206 (fun base=>?_)
 obtain ⟨hl,h24,h64⟩:=zaz hf
 have hrng:=znj hf
 have hn0:((t.plan.targets.length:Int)==0)=false:=by rw [beq_eq_false_iff_ne];omega
 have hne:t.plan.targets≠ []:=by intro e;rw [e] at hn;exact hn rfl
 have hp8:putS8 t.seq 8=putN t.seq.toNat 8:=by rw [putS8,if_neg (by omega)];rfl
 have hp2:putS8 (t.plan.targets.length:Int) 2=putN t.plan.targets.length 2:=by rw [putS8,if_neg (by omega)];rfl
 have hw5:IntKind.i64.wrap (65535 - (t.plan.targets.length:Int))=((65535 - t.plan.targets.length:Nat):Int):=by rw [zg (by omega) (by omega)];omega
 have hp5:putS8 ((65535 - t.plan.targets.length:Nat):Int) 2=putN (65535 - t.plan.targets.length) 2:=by rw [putS8,if_neg (by omega)];rfl
 have hl8:=zP t.seq.toNat 8
 have hl2:=zP t.plan.targets.length 2
 have hl5:=zP (65535 - t.plan.targets.length) 2
 (have tk:=za zho <| za zhE <| za zeo <| za zep <| za zcG <| za zei <| za zbj <| za ze4 <| zb Tryz.prog);repeat' (first|((first|(refine sa ?_;intro K hK)|refine sb ?_);simp only [go_sem,aeq,aeq.aeqF,simprocAttr,hf,hn0,hp8,hp2,hl8,hl2,List.length_append,Tryz.results206])|refine zj (fun K hK=>?_)|refine sc ?_|refine zi rfl (fun hc=>?_) (fun hc=>?_)|(refine hK _ ?_;clear hK K)|((first|refine (show AS.le _ _ from ?_)|refine (show leH _ _ from ?_)|refine (show inH _ _ from ?_));simp only [AS.le,leT,leH,zc,AsgK,AV.le,AV.leL,AObj.le,inH,idsT,idsH,AV.ids,AV.idsL,AV.idsR,AObj.ids,lk,hget,go_sem,aeq,aeq.aeqF,simprocAttr,hf,hn0,hp8,hp2,hl8,hl2,List.length_append])|refine fun (r2:Rnd _)=>?_|refine fun (nb:Bool) (hnb:nb=true→_)=>?_|with_reducible refine And.intro ?_ ?_|exact ‹_<+:_› |(refine (show zV _ _=true from ?_);kernel_rfl)|omega|assumption|refine fun (hg:(_:Bool)=(_:Bool))=>?_|clear hK K)
 obtain ⟨H,hH⟩:∃H,H=putN t.seq.toNat 8++putN t.plan.targets.length 2:=⟨_,rfl⟩
 have hHl:H.length=10:=by rw [hH,List.length_append,hl8,hl2]
 rw [← hH]
 have hc0:0≤sumOf 0 H∧sumOf 0 H≤4294967295:=ze1 0 H (by omega) (by omega)
 obtain ⟨I,hI⟩:∃I:List (List AV)→AHeap×Option (List (List AV)),I=fun xs=>([(3,.var [.d (.int .u32 (tsum (sumOf 0 H) (xs.map unB)))]),(2,.var [.osl 1 1 (xs.length+1) 0 (xs.length+1)]),(1,.arr 1 ([.str []]::(xs.map unB).map strD)),(0,.var [.d (.int .u64 t.seq),.d (.sl 1 (t.plan.targets.map intD)),.d (.sl 1 (t.plan.texts.map strD))])],some []):=⟨_,rfl⟩
 obtain ⟨G,hG⟩:∃G:List (List AV)→Prop,G=fun _=>True:=⟨_,rfl⟩
 obtain ⟨J,hJ⟩:∃J:Code→AHeap→Option (List (List AV))→Prop,J=fun c h g=>False:=⟨_,rfl⟩
 have hB64:∀s∈tbody t.plan,s.length=64:=zhu hf
 have hBl:(tbody t.plan).length≤26:=by
  have:(trows t.plan.targets).length≤2:=by unfold trows;split<;>simp
  rw [tbody,List.length_append]
  omega
 refine zch 100 G I J (zjw t.plan hp h24 hne hrng) (by simp only [go_sem,aeq,aeq.aeqF,simprocAttr]) rfl (zap rfl) (by simp [cxOf,cxY]) rfl (by rw [hG];first|trivial|rfl|simp) (by rw [hI];simp only [AS.le,leT,leH,zc,AsgK,AV.le,AV.leL,AObj.le,inH,idsT,idsH,AV.ids,AV.idsL,AV.idsR,AObj.ids,lk,hget,go_sem,aeq,aeq.aeqF,simprocAttr]<;>simp [AV.leL,AV.le]) (by rw [hI];simp only [AS.le,leT,leH,zc,AsgK,AV.le,AV.leL,AObj.le,inH,idsT,idsH,AV.ids,AV.idsL,AV.idsR,AObj.ids,lk,hget,go_sem,aeq,aeq.aeqF,simprocAttr]<;>simp) (by rw [hI]<;>rfl) (by intro x hx;obtain ⟨q,_,rfl⟩:=List.mem_map.1 hx;rfl) (by intro t ht;simp at ht;first|(rcases ht with rfl|rfl<;>simp [cxOf,cxY]<;>done)|(subst ht;simp [cxOf,cxY])) ?_ ?_ ?_
 ·intro xs x hpre hgd l1 r1
  obtain ⟨ys,s,zs,rfl,rfl,hzl⟩:=zeg hpre
  have hs64:=hB64 s (by rw [hzl];simp)
  have hyl:ys.length≤26:=by rw [hzl,List.length_append] at hBl;omega
  simp only [bItem]
  refine aw_le ⟨[(33,true,.d (.str s)),(6,true,.vp 2 0),(7,true,.vp 3 0)],[(3,.var [.d (.int .u32 (tsum (sumOf 0 H) ys))]),(2,.var [.osl 1 1 (ys.length+1) 0 (ys.length+1)]),(1,.arr 1 ([.str []]::ys.map strD)),(0,.var [.d (.int .u64 t.seq),.d (.sl 1 (t.plan.targets.map intD)),.d (.sl 1 (t.plan.texts.map strD))])],some []⟩ (by rw [hI];simp only [zmi,List.length_map];simp only [AS.le,leT,leH,zc,AsgK,AV.le,AV.leL,AObj.le,inH,idsT,idsH,AV.ids,AV.idsL,AV.idsR,AObj.ids,lk,hget,go_sem,aeq,aeq.aeqF,simprocAttr]) ?_
  have hsn:(ys.map bItem++ [[AV.d (.str s)]]).map unB=ys++ [s]:=by rw [List.map_append,zmi];rfl
  (have tk:=za zho <| za zhE <| za zeo <| za zep <| za zcG <| za zei <| za zbj <| za ze4 <| zb Tryz.prog;have fx:=(⟨hI,hsn⟩:_∧_);repeat' (first|(refine hK _ ?_;clear hK K)|refine va fun K hK=>?_|refine vb ?_|refine wc ?_ ?_|refine wl ?_|refine fun (r2:Rnd _)=>?_|refine fun (nb:Bool) (hnb:nb=true→_)=>?_|exact ‹_<+:_› |exact we|refine fun (hc:_=(_:Bool))=>?_|clear hK K))
  ·rw [hG];trivial
  ·rw [zkE];rfl
  ·simp
  ·rw [List.map_append];rfl
 ·intro _
  rw [hI]
  simp only [zmi,List.length_map]
  have hbl:=zcI (tsum (sumOf 0 H) (tbody t.plan))
  (have tk:=za zho <| za zhE <| za zeo <| za zep <| za zcG <| za zei <| za zbj <| za ze4 <| zb Tryz.prog;have fx:=(⟨hp5,hw5,hl5⟩:_∧_∧_);repeat' (first|(refine hK _ ?_;clear hK K)|refine wa fun K hK=>?_|refine wb ?_|refine wc ?_ ?_|refine wl ?_|refine fun (r2:Rnd _)=>?_|refine fun (nb:Bool) (hnb:nb=true→_)=>?_|exact ‹_<+:_› |exact we|refine fun (hc:_=(_:Bool))=>?_|clear hK K))
  ·simp only [List.length_append,hHl,hl5,hbl];omega
  ·simp only [List.length_append,hHl,hl5,hbl];omega
  ·rw [hH]
   simp [zci,ttop,thead,ztb,strD]
 ·rw [hJ]
  rintro c h3 g3 h
  exact h.elim
@[go_sem] noncomputable def zbV:Ent Tryz.prog 206:= .m1 txA_T zmj
open Go Go.Proofs
structure Jour where
 seq:Int
 pos:Int
 deriving DecidableEq
def jourA (j:Jour):AV:= .agg [.d (.int .u64 j.seq),.d (.int .i64 j.pos)]
attribute [go_sem] jourA
theorem zsa (j:Jour):Jour.mk j.seq j.pos=j:=rfl
noncomputable def zjk:PT Jour:=aggT (consL (intT .u64) (consL (intT .i64) nilL)) (fun p=>⟨p.1,p.2.1⟩) (fun x=>(x.seq,x.pos,())) (fun _=>rfl)
attribute [go_sem] zjk
attribute [go_sem] zsa
def jfit (j:Jour):Bool:=decide (1≤j.seq)&&decide (j.seq≤4611686018427387904)&&decide (0≤j.pos)&&decide (j.pos≤81)
def zdb (pos size:Int):Int:=if pos<0∨size<0∨81<size∨81 - size<pos then 0 else pos
def numF:Int→List Txt→List (Int×Txt)
 |_,[]=> []
 |a,s::r=>(a,s)::numF (a+1) r
theorem zlT:∀ (l:List Txt) (a:Int) (i:Nat) (s:Txt),l[i]?=some s→(numF a l)[i]?=some (a+i,s)
 | [],a,i,s,h=>by simp at h
 |x::l,a,0,s,h=>by
  have:x=s:=by simpa using h
  subst this
  simp [numF]
 |x::l,a,i+1,s,h=>by
  rw [numF,List.getElem?_cons_succ,zlT l (a+1) i s (by simpa using h)]
  congr 2
  omega
theorem zjl:∀ (l:List Txt) (a:Int),(numF a l).length=l.length
 | [],_=>rfl
 |x::l,a=>by rw [numF,List.length_cons,zjl l,List.length_cons]
def jtail (d:Disk) (j:Jour) (p:Plan) (L:List Txt) (A:Int):Disk×Jour×Int:=
 if (layL d (numF (6+A) L)).2≠0 then ((layL d (numF (6+A) L)).1,j,(layL d (numF (6+A) L)).2)
 else if (dflush (layL d (numF (6+A) L)).1).2≠0 then ((dflush (layL d (numF (6+A) L)).1).1,j,(dflush (layL d (numF (6+A) L)).1).2)
 else if (play (dflush (layL d (numF (6+A) L)).1).1 p).2≠0 then ((play (dflush (layL d (numF (6+A) L)).1).1 p).1,j,(play (dflush (layL d (numF (6+A) L)).1).1 p).2)
 else ((play (dflush (layL d (numF (6+A) L)).1).1 p).1,⟨j.seq+1,A+L.length⟩,0)
def jcommit (d:Disk) (j:Jour) (p:Plan):Disk×Jour×Int:=
 if p.targets.length=0 then (d,j,0) else if 4611686018427387904≤j.seq then (d,j,10)
 else if (dflush d).2≠0 then ((dflush d).1,j,(dflush d).2)
 else jtail (dflush d).1 j p (zci j.seq p) (zdb j.pos (zci j.seq p).length)
theorem ziy (pos size:Int):0≤zdb pos size∧zdb pos size≤81:=by
 unfold zdb
 split<;>omega
theorem ziz {p:Plan} (seq:Int) (hf:pfit p=true):(zci seq p).length≤27∧∀s∈zci seq p,s.length≤64:=by
 obtain ⟨hl,h24,h64⟩:=zaz hf
 refine ⟨?_,?_⟩
 ·rw [zci,tbody,List.length_cons,List.length_append]
  have:(trows p.targets).length≤2:=by unfold trows;split<;>simp
  omega
 ·intro s hs
  rcases List.mem_cons.1 hs with rfl|hs
  ·rw [ttop,zgM]
   ·exact Nat.le_refl _
   ·rw [List.length_append,List.length_append,List.length_append,thead,List.length_append,zP,zP,zP,zcI]
    decide
  ·rw [zhu hf s hs];exact Nat.le_refl _
theorem zsb (j:Jour) (_:True):AC 110 [jourA j] (.d (.bool (jfit j))):=by
 refine bod Tryz.func110 Tryz.ntmps110 (fun base=>?_)
 (repeat' (first|(refine hK _ ?_;clear hK K)|refine wa fun K hK=>?_|refine wb ?_|refine wc ?_ ?_|exact we|refine fun (hc:_=(_:Bool))=>?_|clear hK K))
 rfl
@[go_sem] noncomputable def zeB:Ent Tryz.prog 110:= .m1 zjk zsb
theorem zof (pos size:Int) (hp:0≤size∧size≤1000):AC 185 [.d (.int .i64 pos),.d (.int .i64 size)] (.d (.int .i64 (zdb pos size))):=by
 obtain ⟨h0,h1⟩:=hp
 refine bod Tryz.func185 Tryz.ntmps185 (fun base=>?_)
 have hw:IntKind.i64.wrap (81 - size)=81 - size:=zg (by omega) (by omega)
 (have fx:=hw;repeat' (first|(refine hK _ ?_;clear hK K)|refine wa fun K hK=>?_|refine wb ?_|refine wc ?_ ?_|exact we|refine fun (hc:_=(_:Bool))=>?_|clear hK K))
 ·simp only [Bool.or_eq_true,decide_eq_true_eq,or_assoc] at hc
  rw [zdb,if_pos hc]
 ·rw [zdb,if_neg]
  intro h
  have:(decide (pos<0)||decide (size<0)||decide (81<size)||decide (81 - size<pos))=true:=by
   simp only [Bool.or_eq_true,decide_eq_true_eq,or_assoc];exact h
  rw [hc] at this;cases this
@[go_sem] noncomputable def zbH:Ent Tryz.prog 185:= .m2 (intT .i64) (intT .i64) zof
theorem zog:ACall Tryz.prog 186 0 [] [] (fun r _=>r= .d (.int .i64 6)):=by
 refine bod Tryz.func186 Tryz.ntmps186 (fun base=>?_)
 (have tk:=za zlK <| zb Tryz.prog;repeat' (first|(refine hK _ ?_;clear hK K)|refine wa fun K hK=>?_|refine wb ?_|refine wc ?_ ?_|exact we|clear hK K))
@[go_sem] noncomputable def zbI:Ent Tryz.prog 186:= .ofL nilL (fun _=>True) (fun _=> .d (.int .i64 6)) (fun _ hp=>⟨rfl,zog⟩)
theorem zlU (d:Disk) (j:Jour) (p:Plan) (hp:DiskF d∧pfit p=true∧0≤j.seq∧j.seq<18446744073709551616):AC 120 [diskA d,jourA j,planA p] (.tup [diskA (jcommit d j p).1,jourA (jcommit d j p).2.1,.d (.int .i64 (jcommit d j p).2.2)]):=by
 obtain ⟨hd,hf,h0,h1⟩:=hp
 refine fbod Tryz.func120 Tryz.ntmps120 (fun base=>?_)
 obtain ⟨hl,h24,h64⟩:=zaz hf
 have hpo:PlanOk p:=⟨by omega,by omega⟩
 have hdo:=hd.ok
 have hdp:=hd.puts
 by_cases hn:p.targets.length=0
 ·have hb:((p.targets.length:Int)==0)=true:=by rw [hn];rfl
  (have tk:=za zbd <| za zbG <| za zbH <| za zbI <| za zC <| za zb4 <| zb Tryz.prog;have fx:=hb;repeat' (first|(refine hK _ ?_;clear hK K)|refine va fun K hK=>?_|refine vb ?_|refine wc ?_ ?_|exact we|refine fun (hc:_=(_:Bool))=>?_|clear hK K))
  rw [jcommit,if_pos hn]
 have hb:((p.targets.length:Int)==0)=false:=by rw [beq_eq_false_iff_ne];omega
 by_cases hs:4611686018427387904≤j.seq
 ·have hb2:decide (4611686018427387904≤j.seq)=true:=decide_eq_true hs
  (have tk:=za zbd <| za zbG <| za zbH <| za zbI <| za zC <| za zb4 <| zb Tryz.prog;have fx:=(⟨hb,hb2⟩:_∧_);repeat' (first|(refine hK _ ?_;clear hK K)|refine va fun K hK=>?_|refine vb ?_|refine wc ?_ ?_|exact we|refine fun (hc:_=(_:Bool))=>?_|clear hK K))
  rw [jcommit,if_neg hn,if_pos hs]
 have hb2:decide (4611686018427387904≤j.seq)=false:=decide_eq_false hs
 by_cases he1:(dflush d).2≠0
 ·have hb3:((dflush d).2 !=0)=true:=by simpa using he1
  (have tk:=za zbd <| za zbG <| za zbH <| za zbI <| za zC <| za zb4 <| zb Tryz.prog;have fx:=(⟨hb,hb2,hb3⟩:_∧_∧_);repeat' (first|(refine hK _ ?_;clear hK K)|refine va fun K hK=>?_|refine vb ?_|refine wc ?_ ?_|exact we|refine fun (hc:_=(_:Bool))=>?_|clear hK K))
  rw [jcommit,if_neg hn,if_neg hs,if_pos he1]
 have hb3:((dflush d).2 !=0)=false:=by simpa using he1
 obtain ⟨htl,ht64⟩:=ziz j.seq hf
 have hd1:=hd.flush
 have hj:=ziy j.pos (zci j.seq p).length
 have hjc:jcommit d j p=jtail (dflush d).1 j p (zci j.seq p) (zdb j.pos (zci j.seq p).length):=by rw [jcommit,if_neg hn,if_neg hs,if_neg he1]
 obtain ⟨L,hL⟩:∃L,L=zci j.seq p:=⟨_,rfl⟩
 rw [← hL] at htl ht64 hj hjc
 obtain ⟨A,hA⟩:∃A,A=zdb j.pos L.length:=⟨_,rfl⟩
 rw [← hA] at hj hjc
 obtain ⟨D1,hD1⟩:∃D1,D1=(dflush d).1:=⟨_,rfl⟩
 rw [← hD1] at hd1 hjc
 (have tk:=za zbd <| za zbG <| za zbH <| za zbI <| za zC <| za zb4 <| zb Tryz.prog;have fx:=(⟨hb,hb2,hb3⟩:_∧_∧_);repeat' (first|(refine hK _ ?_;clear hK K)|refine va fun K hK=>?_|refine vb ?_|refine wc ?_ ?_|exact we|refine fun (hc:_=(_:Bool))=>?_|clear hK K))
 ·rw [← hL];omega
 rw [← hL,← hA,← hD1]
 refine zo (fun q: { q:Nat×Disk // q.1≤L.length∧DiskF q.2∧layL D1 (numF (6+A) L)=layL q.2 ((numF (6+A) L).drop q.1) } =>⟨[(3,true,.vp 0 0),(4,true,.vp 1 0),(5,true,.vp 2 0),(6,true,.vp 3 0),(7,true,.vp 4 0),(10,true,.d (.sl 1 (L.map strD))),(11,true,.d (.int .i64 A)),(12,true,.d (.int .i64 q.1.1))],[(4,.var [.d (.int .u64 0),.d (.int .i64 0)]),(3,.var [.d (.str []),.nils 2,.d (.int .i64 0),.d (.bool false),.nils 1]),(2,.var [.d (.sl 1 (p.targets.map intD)),.d (.sl 1 (p.texts.map strD))]),(1,.var [.d (.int .u64 j.seq),.d (.int .i64 j.pos)]),(0,(.var [.d (.str q.1.2.data),.d (.sl 2 (q.1.2.cache.map putD)),.d (.int .i64 q.1.2.fuse),.d (.bool q.1.2.off),.d (.sl 1 (q.1.2.bad.map intD))]))],some []⟩) (fun q=>L.length - q.1.1) ⟨(0,D1),Nat.zero_le _,hd1,rfl⟩ le1 (fun q=>?_)
 obtain ⟨⟨i,x⟩,hi,hx,hfx⟩:=q
 simp only at hi hx hfx ⊢
 have hxo:=hx.ok
 have hxp:=hx.puts
 rcases zT strD L i hi with ⟨s,hq,hlt,hcmp,hrow,hdr,htk⟩|⟨hend,hcmp⟩
 ·simp only [strD] at hrow
  have hwi:=zp (i:=i) (by omega)
  have hw1:IntKind.i64.wrap (6+A)=6+A:=zg (by omega) (by omega)
  have hw2:IntKind.i64.wrap (6+A+(i:Int))=6+A+i:=zg (by omega) (by omega)
  rw [zcq (zlT L (6+A) i s hq),layL] at hfx
  have hxw:=hx.write (6+A+i) s
  (have tk:=za zbd <| za zbG <| za zbH <| za zbI <| za zC <| za zb4 <| zb Tryz.prog;have fx:=(⟨hcmp,hrow,hw1,hw2,@Int.toNat_natCast⟩:_∧_∧_∧_∧_);repeat' (first|(refine hK _ ?_;clear hK K)|refine va fun K hK=>?_|refine vb ?_|refine wc ?_ ?_|exact we|refine fun (hc:_=(_:Bool))=>?_|clear hK K))
  ·have hc:(zZ x (6+A+i) s).2≠0:=by simpa using hc
   rw [if_pos hc] at hfx
   rw [hjc,jtail,hfx,if_pos hc]
  ·have hc:¬(zZ x (6+A+i) s).2≠0:=by simpa using hc
   rw [if_neg hc] at hfx
   exact ⟨⟨(i+1,(zZ x (6+A+i) s).1),by omega,hxw,hfx⟩,lew,by simp;omega⟩
 ·subst hend
  have hlay:layL D1 (numF (6+A) L)=(x,0):=by
   rw [hfx,List.drop_of_length_le (by rw [zjl];omega)];rfl
  have hxf:=hx.flush
  have hxfo:=hxf.ok
  have hws:j.seq<4611686018427387904→IntKind.u64.wrap (j.seq+1)=j.seq+1:=fun h=>zad (by omega) (by omega)
  have hws:=hws (by omega)
  have hwl:IntKind.i64.wrap (A+(L.length:Int))=A+L.length:=zg (by omega) (by omega)
  rw [jtail,hlay] at hjc
  simp only [if_neg (show ¬(0:Int)≠0 by decide)] at hjc
  (have tk:=za zbd <| za zbG <| za zbH <| za zbI <| za zC <| za zb4 <| zb Tryz.prog;have fx:=(⟨hcmp,hws,hwl⟩:_∧_∧_);repeat' (first|(refine hK _ ?_;clear hK K)|refine va fun K hK=>?_|refine vb ?_|refine wc ?_ ?_|exact we|refine fun (hc:_=(_:Bool))=>?_|clear hK K))
  ·have hc:(dflush x).2≠0:=by simpa using hc
   rw [hjc,if_pos hc]
  ·rename_i hc0
   have hc0:¬(dflush x).2≠0:=by simpa using hc0
   have hc:(play (dflush x).1 p).2≠0:=by simpa using hc
   rw [hjc,if_neg hc0,if_pos hc]
  ·rename_i hc0
   have hc0:¬(dflush x).2≠0:=by simpa using hc0
   have hc:¬(play (dflush x).1 p).2≠0:=by simpa using hc
   rw [hjc,if_neg hc0,if_neg hc]
@[go_sem] noncomputable def zjm:Ent Tryz.prog 120:= .m3 zq zjk zw zlU
open Go Go.Proofs
theorem zsq:ACall Tryz.prog 259 0 [] [] (fun r _=>r= .tup [.d (.int .i64 6),.d (.int .i64 81)]):=by
 refine bod Tryz.func259 Tryz.ntmps259 (fun base=>?_)
 (repeat' (first|(refine hK _ ?_;clear hK K)|refine wa fun K hK=>?_|refine wb ?_|refine wc ?_ ?_|exact we|clear hK K))
@[go_sem] noncomputable def zoz:Ent Tryz.prog 259:= .ofL nilL (fun _=>True) (fun _=> .tup [.d (.int .i64 6),.d (.int .i64 81)]) (fun _ hp=>⟨rfl,zsq⟩)
theorem zsr:ACall Tryz.prog 207 0 [] [] (fun r _=>r= .tup [.d (.int .i64 6),.d (.int .i64 81)]):=by
 refine bod Tryz.func207 Tryz.ntmps207 (fun base=>?_)
 (have tk:=za zoz <| zb Tryz.prog;repeat' (first|(refine hK _ ?_;clear hK K)|refine wa fun K hK=>?_|refine wb ?_|refine wc ?_ ?_|exact we|clear hK K))
@[go_sem] noncomputable def zcJ:Ent Tryz.prog 207:= .ofL nilL (fun _=>True) (fun _=> .tup [.d (.int .i64 6),.d (.int .i64 81)]) (fun _ hp=>⟨rfl,zsr⟩)
theorem zoA (pos size:Int) (hp:0≤size∧size≤1000):AC 208 [.d (.int .i64 pos),.d (.int .i64 size)] (.d (.int .i64 (zdb pos size))):=by
 obtain ⟨h0,h1⟩:=hp
 refine bod Tryz.func208 Tryz.ntmps208 (fun base=>?_)
 have hw:IntKind.i64.wrap (81 - size)=81 - size:=zg (by omega) (by omega)
 (have tk:=za zcJ <| zb Tryz.prog;have fx:=hw;repeat' (first|(refine hK _ ?_;clear hK K)|refine wa fun K hK=>?_|refine wb ?_|refine wc ?_ ?_|exact we|refine fun (hc:_=(_:Bool))=>?_|clear hK K))
 ·simp only [Bool.or_eq_true,decide_eq_true_eq,or_assoc] at hc
  rw [zdb,if_pos hc]
 ·rw [zdb,if_neg]
  intro h
  have:(decide (pos<0)||decide (size<0)||decide (81<size)||decide (81 - size<pos))=true:=by
   simp only [Bool.or_eq_true,decide_eq_true_eq,or_assoc];exact h
  rw [hc] at this;cases this
@[go_sem] noncomputable def zck:Ent Tryz.prog 208:= .m2 (intT .i64) (intT .i64) zoA
theorem zss (a:Int) (L:List Txt) (_:True):AC 211 [.d (.int .i64 a),.d (.sl 1 (L.map strD))] (.fn (.func 263) [] [.dp [.d (.sl 1 (L.map strD))],.dp [.d (.int .i64 a)]]):=by
 refine fbod Tryz.func211 Tryz.ntmps211 (fun base=>?_)
 (repeat' (first|(refine hK _ ?_;clear hK K)|refine wa fun K hK=>?_|refine wb ?_|refine wc ?_ ?_|refine fun (nb:Bool) (hnb:nb=true→_)=>?_|exact we|clear hK K))
@[go_sem] noncomputable def zdB:Ent Tryz.prog 211:= .m2 (intT .i64) (slT 1 strD zfh) zss
theorem zst (p:Plan) (_:True):AC 212 [planA p] (.fn (.func 264) [] [.dp (planC p)]):=by
 refine fbod Tryz.func212 Tryz.ntmps212 (fun base=>?_)
 (repeat' (first|(refine hK _ ?_;clear hK K)|refine wa fun K hK=>?_|refine wb ?_|refine wc ?_ ?_|refine fun (nb:Bool) (hnb:nb=true→_)=>?_|exact we|clear hK K))
@[go_sem] noncomputable def zdC:Ent Tryz.prog 212:= .m1 zw zst
theorem zqz (d:Disk) (p:Plan) (hp:DiskOk d∧PlanOk p∧p.targets.length=p.texts.length):AC 264 [diskA d,.dp (planC p)] (.tup [diskA (play d p).1,.d (.int .i64 (play d p).2)]):=by
 obtain ⟨hd,hp,hl⟩:=hp
 refine fbod Tryz.func264 Tryz.ntmps264 (fun base=>?_)
 (have tk:=za zfn <| za zbh <| zb Tryz.prog;repeat' (first|(refine hK _ ?_;clear hK K)|refine wa fun K hK=>?_|refine wb ?_|refine wc ?_ ?_|exact we|clear hK K))
@[go_sem] noncomputable def zb6:Ent Tryz.prog 264:= .m2 zq zpR zqz
theorem zqA (d:Disk) (L:List Txt) (a:Int) (hd:DiskF d) (hn:L.length≤100) (h0:0≤a) (h1:a≤100):ACall Tryz.prog 263 0 [diskA d,.dp [.d (.sl 1 (L.map strD))],.dp [.d (.int .i64 a)]] [] (fun r _=>r= .tup [diskA (layL d (numF a L)).1,.d (.int .i64 (layL d (numF a L)).2)]):=by
 refine fbod Tryz.func263 Tryz.ntmps263 (fun base=>?_)
 (have tk:=za zfn <| za zbh <| zb Tryz.prog;repeat' (first|(refine hK _ ?_;clear hK K)|refine wa fun K hK=>?_|refine wb ?_|refine wc ?_ ?_|exact we|refine fun (hc:_=(_:Bool))=>?_|clear hK K))
 refine zo (fun q: { q:Nat×Disk // q.1≤L.length∧DiskF q.2∧layL d (numF a L)=layL q.2 ((numF a L).drop q.1) } =>⟨[(2,true,.dp [.d (.int .i64 a)]),(3,true,.vp 0 0),(4,true,.vp 1 0),(6,true,.d (.int .i64 0)),(9,true,.d (.sl 1 (L.map strD))),(10,true,.d (.int .i64 L.length)),(11,true,.d (.int .i64 q.1.1))],[(1,.var [.d (.str []),.nils 2,.d (.int .i64 0),.d (.bool false),.nils 1]),(0,(.var [.d (.str q.1.2.data),.d (.sl 2 (q.1.2.cache.map putD)),.d (.int .i64 q.1.2.fuse),.d (.bool q.1.2.off),.d (.sl 1 (q.1.2.bad.map intD))]))],some []⟩) (fun q=>L.length - q.1.1) ⟨(0,d),Nat.zero_le _,hd,rfl⟩ le1 (fun q=>?_)
 obtain ⟨⟨i,x⟩,hi,hx,hfx⟩:=q
 simp only at hi hx hfx ⊢
 have hxo:=hx.ok
 rcases zT strD L i hi with ⟨s,hq,hlt,hcmp,hrow,hdr,htk⟩|⟨hend,hcmp⟩
 ·simp only [strD] at hrow
  have hwi:=zp (i:=i) (by omega)
  have hw1:IntKind.i64.wrap (a+(i:Int))=a+i:=zg (by omega) (by omega)
  rw [zcq (zlT L a i s hq),layL] at hfx
  have hxw:=hx.write (a+i) s
  (have tk:=za zfn <| za zbh <| zb Tryz.prog;have fx:=(⟨hcmp,hrow,hw1⟩:_∧_∧_);repeat' (first|(refine hK _ ?_;clear hK K)|refine wa fun K hK=>?_|refine wb ?_|refine wc ?_ ?_|exact we|refine fun (hc:_=(_:Bool))=>?_|clear hK K))
  ·have hc:(zZ x (a+i) s).2≠0:=by simpa using hc
   rw [if_pos hc] at hfx
   rw [hfx]
  ·have hc:¬(zZ x (a+i) s).2≠0:=by simpa using hc
   have hc':(zZ x (a+i) s).2=0:=by simpa using hc
   rw [if_neg hc] at hfx
   exact ⟨⟨(i+1,(zZ x (a+i) s).1),by omega,hxw,hfx⟩,by simp only [AS.le,leT,leH,zc,AsgK,AV.le,AV.leL,AObj.le,inH,idsT,idsH,AV.ids,AV.idsL,AV.idsR,AObj.ids,lk,hget,go_sem,aeq,aeq.aeqF,simprocAttr,hwi,hc'],by simp;omega⟩
 ·subst hend
  have hlay:layL d (numF a L)=(x,0):=by
   rw [hfx,List.drop_of_length_le (by rw [zjl];omega)];rfl
  (have tk:=za zfn <| za zbh <| zb Tryz.prog;have fx:=hcmp;repeat' (first|(refine hK _ ?_;clear hK K)|refine wa fun K hK=>?_|refine wb ?_|refine wc ?_ ?_|exact we|refine fun (hc:_=(_:Bool))=>?_|clear hK K))
  rw [hlay]
@[go_sem] noncomputable def zb7:Ent Tryz.prog 263:= .ofL (consL zq (consL (dpT (consL (slT 1 strD zfh) nilL) (fun p=>p) (fun p=>p) (fun _=>rfl)) (consL (dpT (consL (intT .i64) nilL) (fun p=>p) (fun p=>p) (fun _=>rfl)) nilL))) (fun (d,(L,_),(a,_),_)=>(DiskF d)∧(L.length≤100)∧(0≤a)∧(a≤100)) (fun (d,(L,_),(a,_),_)=> .tup [diskA (layL d (numF a L)).1,.d (.int .i64 (layL d (numF a L)).2)]) (fun (d,(L,_),(a,_),_) hp=>⟨rfl,zqA d L a hp.1 hp.2.1 hp.2.2.1 hp.2.2.2⟩)
open Go Go.Proofs
def runD:List (Disk→Disk×Int)→Disk→Disk×Int
 | [],d=>(d,0)
 |f::r,d=>if (f d).2≠0 then f d else runD r (f d).1
def zbv (A:Int) (L:List Txt) (p:Plan):List (Disk→Disk×Int):= [dflush,fun d=>layL d (numF A L),dflush,fun d=>play d p]
def zkL (A:Int) (L:List Txt) (p:Plan):List (List AV):= [[.fn (.func 210) [] []],[.fn (.func 263) [] [.dp [.d (.sl 1 (L.map strD))],.dp [.d (.int .i64 A)]]],[.fn (.func 210) [] []],[.fn (.func 264) [] [.dp [.d (.sl 1 (p.targets.map intD)),.d (.sl 1 (p.texts.map strD))]]]]
def wkD (d:Disk) (e:Int):List AV:= [.d (.str d.data),.d (.sl 2 (d.cache.map putD)),.d (.int .i64 d.fuse),.d (.bool d.off),.d (.sl 1 (d.bad.map intD)),.d (.int .i64 e)]
attribute [go_sem] wkD zkL
theorem DiskF.play {d:Disk} (h:DiskF d) (p:Plan):DiskF (play d p).1:=DiskF.layL _ h
theorem zu1 (d:Disk) (A:Int) (L:List Txt) (p:Plan) (hd:DiskF d) (hp:PlanOk p) (hl:p.targets.length=p.texts.length) (hn:L.length≤100) (h0:0≤A) (h1:A≤100):
  ACall Tryz.prog 209 6 [.vp 5 0,.asl 1 (zkL A L p)] [(5,.var (wkD d 0))] (fun r h'=>∃ob',h'= [(5,ob')]∧r= .tup []∧ob'= .var (wkD (runD (zbv A L p) d).1 (runD (zbv A L p) d).2)):=by
 refine bod Tryz.func209 Tryz.ntmps209 (fun base=>?_)
 (have tk:=za zbi <| za zb7 <| za zb6 <| zb Tryz.prog;repeat' (first|(refine hK _ ?_;clear hK K)|refine wa fun K hK=>?_|refine wb ?_|refine wc ?_ ?_|refine wl ?_|refine fun (nb:Bool) (hnb:nb=true→_)=>?_|exact we|refine fun (hc:_=(_:Bool))=>?_|clear hK K))
 refine zo (fun q: { q:Nat×Disk // q.1≤4∧DiskF q.2∧runD (zbv A L p) d=runD ((zbv A L p).drop q.1) q.2 } =>⟨[(0,true,.vp 5 0),(6,true,.asl 1 (zkL A L p)),(7,true,.d (.int .i64 4)),(8,true,.d (.int .i64 q.1.1))],[(5,.var (wkD q.1.2 0))],some []⟩) (fun q=>4 - q.1.1) ⟨(0,d),Nat.zero_le _,hd,rfl⟩ le1 (fun q=>?_)
 obtain ⟨⟨k,x⟩,hk,hx,hr⟩:=q
 simp only at hk hx hr ⊢
 have hxo:=hx.ok
 have hxp:=hx.puts
 have h4:k=0∨k=1∨k=2∨k=3∨k=4:=by omega
 have hc0:((0:Nat):Int)=0:=rfl
 have hc1:((1:Nat):Int)=1:=rfl
 have hc2:((2:Nat):Int)=2:=rfl
 have hc3:((3:Nat):Int)=3:=rfl
 have hc4:((4:Nat):Int)=4:=rfl
 have ht1:Int.toNat 1=1:=rfl
 have ht2:Int.toNat 2=2:=rfl
 have ht3:Int.toNat 3=3:=rfl
 have hw1:IntKind.i64.wrap 1=1:=by decide
 have hw2:IntKind.i64.wrap 2=2:=by decide
 have hw3:IntKind.i64.wrap 3=3:=by decide
 have hw4:IntKind.i64.wrap 4=4:=by decide
 rcases h4 with rfl|rfl|rfl|rfl|rfl
 ·have hr':runD (zbv A L p) d=if (dflush x).2≠0 then dflush x else runD ((zbv A L p).drop 1) (dflush x).1:=hr
  have hxn:DiskF (dflush x).1:=hx.flush
  (have tk:=za zbi <| za zb7 <| za zb6 <| zb Tryz.prog;have fx:=(⟨hc0,hw1⟩:_∧_);repeat' (first|(refine hK _ ?_;clear hK K)|refine wa fun K hK=>?_|refine wb ?_|refine wc ?_ ?_|refine wl ?_|refine fun (nb:Bool) (hnb:nb=true→_)=>?_|exact we|refine fun (hc:_=(_:Bool))=>?_|clear hK K))
  ·have hc:(dflush x).2≠0:=by simpa using hc
   rw [if_pos hc] at hr'
   exact ⟨_,rfl,by rw [hr']⟩
  ·have hc:(dflush x).2=0:=by simpa using hc
   rw [if_neg (by rw [hc];decide)] at hr'
   exact ⟨⟨(1,(dflush x).1),by show (_:Nat)≤4;omega,hxn,hr'⟩,by simp only [AS.le,leT,leH,zc,AsgK,AV.le,AV.leL,AObj.le,inH,idsT,idsH,AV.ids,AV.idsL,AV.idsR,AObj.ids,lk,hget,go_sem,aeq,aeq.aeqF,simprocAttr,hw1,hc]<;>and_intros<;>rfl,by simp⟩
 ·have hr':runD (zbv A L p) d=if (layL x (numF A L)).2≠0 then layL x (numF A L) else runD ((zbv A L p).drop 2) (layL x (numF A L)).1:=hr
  have hxn:DiskF (layL x (numF A L)).1:=DiskF.layL _ hx
  (have tk:=za zbi <| za zb7 <| za zb6 <| zb Tryz.prog;have fx:=(⟨hc1,hw2,ht1⟩:_∧_∧_);repeat' (first|(refine hK _ ?_;clear hK K)|refine wa fun K hK=>?_|refine wb ?_|refine wc ?_ ?_|refine wl ?_|refine fun (nb:Bool) (hnb:nb=true→_)=>?_|exact we|refine fun (hc:_=(_:Bool))=>?_|clear hK K))
  ·have hc:(layL x (numF A L)).2≠0:=by simpa using hc
   rw [if_pos hc] at hr'
   exact ⟨_,rfl,by rw [hr']⟩
  ·have hc:(layL x (numF A L)).2=0:=by simpa using hc
   rw [if_neg (by rw [hc];decide)] at hr'
   exact ⟨⟨(2,(layL x (numF A L)).1),by show (_:Nat)≤4;omega,hxn,hr'⟩,by simp only [AS.le,leT,leH,zc,AsgK,AV.le,AV.leL,AObj.le,inH,idsT,idsH,AV.ids,AV.idsL,AV.idsR,AObj.ids,lk,hget,go_sem,aeq,aeq.aeqF,simprocAttr,hw2,hc]<;>and_intros<;>rfl,by simp⟩
 ·have hr':runD (zbv A L p) d=if (dflush x).2≠0 then dflush x else runD ((zbv A L p).drop 3) (dflush x).1:=hr
  have hxn:DiskF (dflush x).1:=hx.flush
  (have tk:=za zbi <| za zb7 <| za zb6 <| zb Tryz.prog;have fx:=(⟨hc2,hw3,ht2⟩:_∧_∧_);repeat' (first|(refine hK _ ?_;clear hK K)|refine wa fun K hK=>?_|refine wb ?_|refine wc ?_ ?_|refine wl ?_|refine fun (nb:Bool) (hnb:nb=true→_)=>?_|exact we|refine fun (hc:_=(_:Bool))=>?_|clear hK K))
  ·have hc:(dflush x).2≠0:=by simpa using hc
   rw [if_pos hc] at hr'
   exact ⟨_,rfl,by rw [hr']⟩
  ·have hc:(dflush x).2=0:=by simpa using hc
   rw [if_neg (by rw [hc];decide)] at hr'
   exact ⟨⟨(3,(dflush x).1),by show (_:Nat)≤4;omega,hxn,hr'⟩,by simp only [AS.le,leT,leH,zc,AsgK,AV.le,AV.leL,AObj.le,inH,idsT,idsH,AV.ids,AV.idsL,AV.idsR,AObj.ids,lk,hget,go_sem,aeq,aeq.aeqF,simprocAttr,hw3,hc]<;>and_intros<;>rfl,by simp⟩
 ·have hr':runD (zbv A L p) d=if (play x p).2≠0 then play x p else runD ((zbv A L p).drop 4) (play x p).1:=hr
  have hxn:DiskF (play x p).1:=hx.play p
  (have tk:=za zbi <| za zb7 <| za zb6 <| zb Tryz.prog;have fx:=(⟨hc3,hw4,ht3⟩:_∧_∧_);repeat' (first|(refine hK _ ?_;clear hK K)|refine wa fun K hK=>?_|refine wb ?_|refine wc ?_ ?_|refine wl ?_|refine fun (nb:Bool) (hnb:nb=true→_)=>?_|exact we|refine fun (hc:_=(_:Bool))=>?_|clear hK K))
  ·have hc:(play x p).2≠0:=by simpa using hc
   rw [if_pos hc] at hr'
   exact ⟨_,rfl,by rw [hr']⟩
  ·have hc:(play x p).2=0:=by simpa using hc
   rw [if_neg (by rw [hc];decide)] at hr'
   exact ⟨⟨(4,(play x p).1),by show (_:Nat)≤4;omega,hxn,hr'⟩,by simp only [AS.le,leT,leH,zc,AsgK,AV.le,AV.leL,AObj.le,inH,idsT,idsH,AV.ids,AV.idsL,AV.idsR,AObj.ids,lk,hget,go_sem,aeq,aeq.aeqF,simprocAttr,hw4,hc]<;>and_intros<;>rfl,by simp⟩
 ·(have tk:=za zbi <| za zb7 <| za zb6 <| zb Tryz.prog;have fx:=hc4;repeat' (first|(refine hK _ ?_;clear hK K)|refine wa fun K hK=>?_|refine wb ?_|refine wc ?_ ?_|refine wl ?_|refine fun (nb:Bool) (hnb:nb=true→_)=>?_|exact we|refine fun (hc:_=(_:Bool))=>?_|clear hK K))
  have hr':runD (zbv A L p) d=(x,0):=hr
  exact ⟨_,rfl,by rw [hr']⟩
theorem zqB (d:Disk) (A:Int) (L:List Txt) (p:Plan) (j:Jour):(if (dflush d).2≠0 then ((dflush d).1,j,(dflush d).2) else jtail (dflush d).1 j p L A)=(if (runD (zbv (6+A) L p) d).2≠0 then ((runD (zbv (6+A) L p) d).1,j,(runD (zbv (6+A) L p) d).2) else ((runD (zbv (6+A) L p) d).1,⟨j.seq+1,A+L.length⟩,0)):=by
 simp only [zbv,runD,jtail]
 repeat' split
 all_goals simp_all
theorem zmk (d:Disk) (j:Jour) (p:Plan) (hp:DiskF d∧pfit p=true∧0≤j.seq∧j.seq<18446744073709551616):AC 134 [diskA d,jourA j,planA p] (.tup [diskA (jcommit d j p).1,jourA (jcommit d j p).2.1,.d (.int .i64 (jcommit d j p).2.2)]):=by
 obtain ⟨hd,hf,h0,h1⟩:=hp
 refine fbod Tryz.func134 Tryz.ntmps134 (fun base=>?_)
 obtain ⟨hl,h24,h64⟩:=zaz hf
 have hpo:PlanOk p:=⟨by omega,by omega⟩
 have hdo:=hd.ok
 have hdp:=hd.puts
 by_cases hn:p.targets.length=0
 ·have hb:((p.targets.length:Int)==0)=true:=by rw [hn];rfl
  (have tk:=za zbV <| za zcJ <| za zck <| za zdB <| za zdC <| zb Tryz.prog;have fx:=hb;repeat' (first|(refine hK _ ?_;clear hK K)|refine wa fun K hK=>?_|refine wb ?_|refine wc ?_ ?_|refine wl ?_|refine fun (nb:Bool) (hnb:nb=true→_)=>?_|exact we|refine fun (hc:_=(_:Bool))=>?_|clear hK K))
  rw [jcommit,if_pos hn]
 have hb:((p.targets.length:Int)==0)=false:=by rw [beq_eq_false_iff_ne];omega
 by_cases hs:4611686018427387904≤j.seq
 ·have hb2:decide (4611686018427387904≤j.seq)=true:=decide_eq_true hs
  (have tk:=za zbV <| za zcJ <| za zck <| za zdB <| za zdC <| zb Tryz.prog;have fx:=(⟨hb,hb2⟩:_∧_);repeat' (first|(refine hK _ ?_;clear hK K)|refine wa fun K hK=>?_|refine wb ?_|refine wc ?_ ?_|refine wl ?_|refine fun (nb:Bool) (hnb:nb=true→_)=>?_|exact we|refine fun (hc:_=(_:Bool))=>?_|clear hK K))
  rw [jcommit,if_neg hn,if_pos hs]
 have hb2:decide (4611686018427387904≤j.seq)=false:=decide_eq_false hs
 obtain ⟨htl,ht64⟩:=ziz j.seq hf
 have hjr:=ziy j.pos (zci j.seq p).length
 have hjc:jcommit d j p=if (dflush d).2≠0 then ((dflush d).1,j,(dflush d).2) else jtail (dflush d).1 j p (zci j.seq p) (zdb j.pos (zci j.seq p).length):=by rw [jcommit,if_neg hn,if_neg hs]
 rw [zqB] at hjc
 obtain ⟨L,hL⟩:∃L,L=zci j.seq p:=⟨_,rfl⟩
 rw [← hL] at htl ht64 hjr hjc
 obtain ⟨A,hA⟩:∃A,A=zdb j.pos L.length:=⟨_,rfl⟩
 rw [← hA] at hjr hjc
 have hw6:IntKind.i64.wrap (6+A)=6+A:=zg (by omega) (by omega)
 (have tk:=za zbV <| za zcJ <| za zck <| za zdB <| za zdC <| zb Tryz.prog;have fx:=(⟨hb,hb2,hL.symm,hA.symm⟩:_∧_∧_∧_);repeat' ((fail_if_success refine hds 9 (by rfl) ?_);first|(refine hK _ ?_;clear hK K)|refine wa fun K hK=>?_|refine wb ?_|refine wc ?_ ?_|refine wl ?_|refine fun (nb:Bool) (hnb:nb=true→_)=>?_|exact we|refine fun (hc:_=(_:Bool))=>?_|clear hK K))
 obtain ⟨H,hH⟩:∃H:AHeap,H= [(4,.var [.d (.int .u64 0),.d (.int .i64 0)]),(3,.var [.d (.str []),.nils 2,.d (.int .i64 0),.d (.bool false),.nils 1]),(2,.var [.d (.sl 1 (p.targets.map intD)),.d (.sl 1 (p.texts.map strD))]),(1,.var [.d (.int .u64 j.seq),.d (.int .i64 j.pos)]),(0,(.var [.d (.str d.data),.d (.sl 2 (d.cache.map putD)),.d (.int .i64 d.fuse),.d (.bool d.off),.d (.sl 1 (d.bad.map intD))]))]:=⟨_,rfl⟩
 have hh:HotOk Tryz.prog 0 (hotOf noHot 209 [.vp 5 0,.asl 1 (zkL (6+A) L p)] ((5,.var (wkD d 0))::H) (.tup []) ((5,.var (wkD (runD (zbv (6+A) L p) d).1 (runD (zbv (6+A) L p) d).2))::H)):=by
  rw [hH]
  refine zm6 (zm5 _ _) (fun K hK=>((zu1 d (6+A) L p hd hpo hl (by omega) (by omega) (by omega)).one (fl':=0) rfl rfl (zap rfl) rfl (by simp [AObj.ids,AV.idsL,AV.ids,wkD]) (by simp [AV.idsL,AV.ids,AV.idsR,zkL]) (by omega)).mono ?_)
  rintro r h' ⟨ob',⟨rfl,rfl⟩,rfl⟩
  exact hK
 obtain ⟨X,hX⟩:∃X,X=runD (zbv (6+A) L p) d:=⟨_,rfl⟩
 rw [← hX] at hh hjc
 rw [hH] at hh
 refine zfT _ _ [0,1,2,4] 6 rfl (by kernel_rfl) (za zbV <| za zcJ <| za zck <| za zdB <| za zdC <| zb Tryz.prog) hh (by kernel_rfl) ⟨[(4,true,.vp 1 0),(6,true,.vp 3 0),(7,true,.vp 4 0),(9,true,.d (.sl 1 (L.map strD))),(13,true,.d (.int .i64 A)),(14,true,.vp 5 0)],(5,.var (wkD X.1 X.2)):: [(4,.var [.d (.int .u64 0),.d (.int .i64 0)]),(3,.var [.d (.str []),.nils 2,.d (.int .i64 0),.d (.bool false),.nils 1]),(1,.var [.d (.int .u64 j.seq),.d (.int .i64 j.pos)])],some []⟩ ?_ ?_
 ·clear hh
  simp only [AS.le,leT,leH,zc,AsgK,AV.le,AV.leL,AObj.le,inH,idsT,idsH,AV.ids,AV.idsL,AV.idsR,AObj.ids,lk,hget,go_sem,aeq,aeq.aeqF,simprocAttr,hw6]
 ·clear hh
  have hws:IntKind.u64.wrap (j.seq+1)=j.seq+1:=zad (by omega) (by omega)
  have hwl:IntKind.i64.wrap (A+(L.length:Int))=A+L.length:=zg (by omega) (by omega)
  (have tk:=za zbV <| za zcJ <| za zck <| za zdB <| za zdC <| zb Tryz.prog;have fx:=(⟨hws,hwl⟩:_∧_);repeat' (first|(refine hK _ ?_;clear hK K)|refine va fun K hK=>?_|refine vb ?_|refine wc ?_ ?_|refine wl ?_|refine fun (nb:Bool) (hnb:nb=true→_)=>?_|exact we|refine fun (hc:_=(_:Bool))=>?_|clear hK K))
  ·have hc:X.2≠0:=by simpa using hc
   rw [hjc,if_pos hc]
  ·have hc:¬X.2≠0:=by simpa using hc
   rw [hjc,if_neg hc]
@[go_sem] noncomputable def zjx:Ent Tryz.prog 134:= .m3 zq zjk zw zmk
open Go Go.Proofs
structure Geom where
 guest:Int
 host:Int
 deriving DecidableEq
def geomA (g:Geom):AV:= .agg [.d (.int .i64 g.guest),.d (.int .i64 g.host)]
attribute [go_sem] geomA
theorem zsc (g:Geom):Geom.mk g.guest g.host=g:=rfl
noncomputable def zdT:PT Geom:=aggT (consL (intT .i64) (consL (intT .i64) nilL)) (fun p=>⟨p.1,p.2.1⟩) (fun x=>(x.guest,x.host,())) (fun _=>rfl)
attribute [go_sem] zdT
attribute [go_sem] zsc
structure DP (d:Disk) (p:Plan):Prop where
 d:DiskF d
 p:pfit p=true
def p0:Plan:=⟨[],[]⟩
theorem zdc:pfit p0=true:=rfl
theorem DP.zero {d:Disk} {p:Plan} (h:DP d p):DP d p0:=⟨h.d,zdc⟩
theorem DP.dok {d:Disk} {p:Plan} (h:DP d p):DiskOk d:=h.d.ok
theorem DP.puts {d:Disk} {p:Plan} (h:DP d p):d.cache.all (putOk d)=true:=h.d.puts
theorem DP.pok {d:Disk} {p:Plan} (h:DP d p):PlanOk p:=by
 obtain ⟨hl,h24,_⟩:=zaz h.p
 exact ⟨by omega,by omega⟩
theorem DP.plen {d:Disk} {p:Plan} (h:DP d p):p.targets.length=p.texts.length:=(zaz h.p).1
theorem zjn {d:Disk} {at_:Int} (hf:d.cache.all (putOk d)=true) (he:(dread d at_).2=0):(dread d at_).1.length=64:=by
 unfold dread at he ⊢
 repeat' split
 all_goals first|(simp_all;done)|skip
 exact znd hf (by simp_all)
theorem zcA {d:Disk} {p:Plan} {at_:Int} (h:DP d p) (he:(plook d p at_).2=0):(plook d p at_).1.length=64:=by
 unfold plook at he ⊢
 rcases zb3 p.targets at_ with hk|⟨k,hk,hkl⟩
 ·rw [if_neg (by omega)] at he ⊢
  exact zjn h.puts he
 ·rw [if_pos (by omega),hk,Int.toNat_natCast]
  obtain ⟨s,hq⟩:=zaj (l:=p.texts) (i:=k) (by have:=h.plen;omega)
  rw [List.getD_eq_getElem?_getD,hq]
  exact (zaz h.p).2.2 s (List.mem_of_getElem? hq)
def zM (k:Int):Bool:=decide (0≤k)&&decide (k<256)
def rget (d:Disk) (p:Plan) (k:Int):Int×Int:=
 if !zM k then (0,10) else if (plook d p (87+k / 32)).2≠0 then (0,(plook d p (87+k / 32)).2)
 else (((takeN (((plook d p (87+k / 32)).1.drop (2*(k % 32)).toNat).take 2):Nat):Int),0)
def radd (d:Disk) (p:Plan) (k by_:Int):Plan×Int:=
 if (rget d p k).2≠0 then (p,(rget d p k).2) else if by_< -(rget d p k).1∨65535 - (rget d p k).1<by_ then (p,18)
 else zeh d p (87+k / 32) (2*(k % 32)) (putN ((rget d p k).1+by_).toNat 2)
def zej (d:Disk) (p:Plan):Nat→Int→Int×Int
 |0,_=>(0,17)
 |m+1,k=>if (rget d p k).2≠0 then (0,(rget d p k).2) else if (rget d p0 k).2≠0 then (0,(rget d p0 k).2)
  else if (rget d p k).1=0∧(rget d p0 k).1=0 then (k,0) else zej d p m (k+1)
def rfind (d:Disk) (p:Plan) (g:Geom):Int×Int:=zej d p g.host.toNat 0
def rtake (d:Disk) (p:Plan) (g:Geom):Plan×Int×Int:=
 if (rfind d p g).2≠0 then (p,0,(rfind d p g).2) else if (radd d p (rfind d p g).1 1).2≠0 then (p,0,(radd d p (rfind d p g).1 1).2)
 else ((radd d p (rfind d p g).1 1).1,(rfind d p g).1,0)
theorem zeC (d:Disk) (p:Plan) (k:Int):0≤(rget d p k).1∧(rget d p k).1≤65535:=by
 unfold rget
 split
 ·exact ⟨Int.le_refl 0,show (0:Int)≤65535 by decide⟩
 split
 ·exact ⟨Int.le_refl 0,show (0:Int)≤65535 by decide⟩
 ·have:=zbw (l:=((plook d p (87+k / 32)).1.drop (2*(k % 32)).toNat).take 2) (i:=2) (by rw [List.length_take];omega)
  simp only
  omega
theorem znm {d:Disk} {p:Plan} {k by_:Int} (h:pfit p=true):pfit (radd d p k by_).1=true:=by
 unfold radd
 split
 ·exact h
 split
 ·exact h
 ·exact zfX h
theorem DP.radd {d:Disk} {p:Plan} (h:DP d p) (k by_:Int):DP d (radd d p k by_).1:=⟨h.d,znm h.p⟩
theorem DP.rtake {d:Disk} {p:Plan} (h:DP d p) (g:Geom):DP d (rtake d p g).1:=by
 unfold Aw.rtake
 split
 ·exact h
 split
 ·exact h
 ·exact h.radd _ _
theorem hostOk_iff {k:Int} :zM k=true↔0≤k∧k<256:=by simp [zM]
theorem zbJ (k:Int):(decide (k<0)||decide (256≤k))= !zM k:=by
 rw [zM,Bool.not_and]
 congr 1
 ·by_cases h:k<0
  ·rw [decide_eq_true h,decide_eq_false (by omega)];rfl
  ·rw [decide_eq_false h,decide_eq_true (by omega)];rfl
 ·by_cases h:k<256
  ·rw [decide_eq_true h,decide_eq_false (by omega)];rfl
  ·rw [decide_eq_false h,decide_eq_true (by omega)];rfl
theorem zcs {s:Txt} {z:Int} (n:Nat) (hz:z=n) (h0:0<n) (h8:n≤8) (h:n≤s.length):takeS s z=(((takeN (s.take n):Nat):Int),s.drop n,0):=by
 subst hz
 rw [takeS,if_neg (by omega),if_neg (by omega)]
 simp
theorem zsd (d:Disk) (p:Plan) (k:Int) (h:DP d p):AC 116 [diskA d,planA p,.d (.int .i64 k)] (.tup [.d (.int .i64 (rget d p k).1),.d (.int .i64 (rget d p k).2)]):=by
 refine bod Tryz.func116 Tryz.ntmps116 (fun base=>?_)
 have h1:=h.dok
 have h2:=h.pok
 have h3:=h.plen
 by_cases hk:zM k=true
 ·have hdec:(!zM k)=false:=by rw [hk];rfl
  obtain ⟨hk0,hk1⟩:=hostOk_iff.1 hk
  by_cases he:(plook d p (87+k / 32)).2=0
  ·have hb:((plook d p (87+k / 32)).2 !=0)=false:=by simpa using he
   have h64:=zcA h he
   have hts:=zcs (s:=((plook d p (87+k / 32)).1.drop (2*(k % 32)).toNat)) (z:=2) 2 rfl (by omega) (by omega) (by rw [List.length_drop];omega)
   have hr:=zeC d p k
   have hrg:rget d p k=(((takeN (((plook d p (87+k / 32)).1.drop (2*(k % 32)).toNat).take 2):Nat):Int),0):=by
    rw [rget,if_neg (by rw [hdec];exact Bool.false_ne_true),if_neg (by simpa using he)]
   have hwr:IntKind.i64.wrap (rget d p k).1=(rget d p k).1:=zg (by omega) (by omega)
   rw [hrg] at hwr
   simp only at hwr
   have hld:((plook d p (87+k / 32)).1.drop (2*(k % 32)).toNat).length≤64:=by rw [List.length_drop];omega
   have htk:List.take (plook d p (87+k / 32)).1.length (plook d p (87+k / 32)).1=(plook d p (87+k / 32)).1:=List.take_length
   (have tk:=za zcD <| za zx <| za zS <| zb Tryz.prog;have fx:=(⟨@zbJ,hdec,hb,hts,hwr,htk⟩:_∧_∧_∧_∧_∧_);repeat' (first|(refine hK _ ?_;clear hK K)|refine wa fun K hK=>?_|refine wb ?_|refine wc ?_ ?_|exact we|refine fun (hc:_=(_:Bool))=>?_|clear hK K))
   rw [hrg]
  ·have hb:((plook d p (87+k / 32)).2 !=0)=true:=by simpa using he
   (have tk:=za zcD <| za zx <| za zS <| zb Tryz.prog;have fx:=(⟨@zbJ,hdec,hb⟩:_∧_∧_);repeat' (first|(refine hK _ ?_;clear hK K)|refine wa fun K hK=>?_|refine wb ?_|refine wc ?_ ?_|exact we|refine fun (hc:_=(_:Bool))=>?_|clear hK K))
   rw [rget,if_neg (by rw [hdec];exact Bool.false_ne_true),if_pos he]
 ·have hdec:(!zM k)=true:=by simpa using hk
  (have tk:=za zcD <| za zx <| za zS <| zb Tryz.prog;have fx:=(⟨@zbJ,hdec⟩:_∧_);repeat' (first|(refine hK _ ?_;clear hK K)|refine wa fun K hK=>?_|refine wb ?_|refine wc ?_ ?_|exact we|refine fun (hc:_=(_:Bool))=>?_|clear hK K))
  rw [rget,if_pos hdec]
@[go_sem] noncomputable def zX:Ent Tryz.prog 116:= .m3 zq zw (intT .i64) zsd
theorem zhv {x:Int} :putS8 x 2=putN x.toNat 2:=by rw [putS8,if_neg (by omega)];rfl
theorem ziA {x:Int} :putS8 x 4=putN x.toNat 4:=by rw [putS8,if_neg (by omega)];rfl
theorem zu0 {x:Int} :putS8 x 8=putN x.toNat 8:=by rw [putS8,if_neg (by omega)];rfl
theorem zlV {d:Disk} {p:Plan} {k:Int} (h:(rget d p k).2=0):0≤k∧k<256:=by
 unfold rget at h
 by_cases hk:zM k=true
 ·exact hostOk_iff.1 hk
 ·rw [if_pos (by simpa using hk)] at h
  cases h
theorem zse (d:Disk) (p:Plan) (k by_:Int) (h:DP d p):AC 42 [diskA d,planA p,.d (.int .i64 k),.d (.int .i64 by_)] (.tup [planA (radd d p k by_).1,.d (.int .i64 (radd d p k by_).2)]):=by
 refine fbod Tryz.func42 Tryz.ntmps42 (fun base=>?_)
 have h1:=h.dok
 have h2:=h.puts
 have h3:=h.p
 have hr:=zeC d p k
 by_cases he:(rget d p k).2=0
 ·have hb:((rget d p k).2 !=0)=false:=by simpa using he
  obtain ⟨hk0,hk1⟩:=zlV he
  have hw1:IntKind.i64.wrap (0 - (rget d p k).1)= -(rget d p k).1:=by rw [zg (by omega) (by omega)];omega
  have hw2:IntKind.i64.wrap (65535 - (rget d p k).1)=65535 - (rget d p k).1:=zg (by omega) (by omega)
  by_cases hc:by_< -(rget d p k).1∨65535 - (rget d p k).1<by_
  ·have hdec:(decide (by_< -(rget d p k).1)||decide (65535 - (rget d p k).1<by_))=true:=by simpa using hc
   (have tk:=za zX <| za zcD <| za zar <| za zao <| zb Tryz.prog;have fx:=(⟨hb,hw1,hw2,hdec⟩:_∧_∧_∧_);repeat' (first|(refine hK _ ?_;clear hK K)|refine wa fun K hK=>?_|refine wb ?_|refine wc ?_ ?_|exact we|refine fun (hc:_=(_:Bool))=>?_|clear hK K))
   rw [radd,if_neg (by simpa using he),if_pos hc]
  ·have hdec:(decide (by_< -(rget d p k).1)||decide (65535 - (rget d p k).1<by_))=false:=by simpa using hc
   have hw3:IntKind.i64.wrap ((rget d p k).1+by_)=(rget d p k).1+by_:=zg (by omega) (by omega)
   have hw4:IntKind.u64.wrap ((rget d p k).1+by_)=(rget d p k).1+by_:=zad (by omega) (by omega)
   have hpl:=zP ((rget d p k).1+by_).toNat 2
   (have tk:=za zX <| za zcD <| za zar <| za zao <| zb Tryz.prog;have fx:=(⟨hb,hw1,hw2,hw3,hw4,hdec,@zhv⟩:_∧_∧_∧_∧_∧_∧_);repeat' (first|(refine hK _ ?_;clear hK K)|refine wa fun K hK=>?_|refine wb ?_|refine wc ?_ ?_|exact we|refine fun (hc:_=(_:Bool))=>?_|clear hK K))
   all_goals first|(rw [hpl];decide)|skip
   rw [radd,if_neg (by simpa using he),if_neg hc]
 ·have hb:((rget d p k).2 !=0)=true:=by simpa using he
  (have tk:=za zX <| za zcD <| za zar <| za zao <| zb Tryz.prog;have fx:=hb;repeat' (first|(refine hK _ ?_;clear hK K)|refine wa fun K hK=>?_|refine wb ?_|refine wc ?_ ?_|exact we|refine fun (hc:_=(_:Bool))=>?_|clear hK K))
  rw [radd,if_pos he]
@[go_sem] noncomputable def zK:Ent Tryz.prog 42:= .m4 zq zw (intT .i64) (intT .i64) zse
theorem ziB:∀ (d:Disk) (p:Plan) (m:Nat) (k:Int),(zej d p m k).2=0→(0≤(zej d p m k).1∧(zej d p m k).1<256)
 |d,p,0,k,h=>by simp [zej] at h
 | d,p,m+1,k,h=>by
  rw [zej] at h ⊢
  split at h
  ·rename_i hc;exact absurd h hc
  rename_i hc0
  rw [if_neg hc0]
  split at h
  ·rename_i hc;exact absurd h hc
  rename_i hc1
  rw [if_neg hc1]
  split at h
  ·rename_i hc
   rw [if_pos hc]
   exact zlV (by simpa using hc0)
  ·rename_i hc
   rw [if_neg hc]
   exact ziB d p m (k+1) h
theorem zqf (d:Disk) (p:Plan) (g:Geom) (hp:DP d p∧g.host≤1000000):AC 161 [diskA d,planA p,geomA g] (.tup [.d (.int .i64 (rfind d p g).1),.d (.int .i64 (rfind d p g).2)]):=by
 obtain ⟨h,hg⟩:=hp
 refine fbod Tryz.func161 Tryz.ntmps161 (fun base=>?_)
 have hz:=h.zero
 have hz0:p0=Plan.mk [] []:=rfl
 rw [hz0] at hz
 (have tk:=za zX <| za zK <| zb Tryz.prog;repeat' (first|(refine hK _ ?_;clear hK K)|refine wa fun K hK=>?_|refine wb ?_|refine wc ?_ ?_|exact we|refine fun (hc:_=(_:Bool))=>?_|clear hK K))
 refine zo (fun q: { i:Nat // (i:Int)≤max g.host 0∧rfind d p g=zej d p (g.host.toNat - i) i } =>⟨[(3,true,.vp 0 0),(4,true,.vp 1 0),(5,true,.vp 2 0),(8,true,.d (.int .i64 q.1))],[(2,.var [.d (.int .i64 g.guest),.d (.int .i64 g.host)]),(1,.var [.d (.sl 1 (p.targets.map intD)),.d (.sl 1 (p.texts.map strD))]),(0,(.var [.d (.str d.data),.d (.sl 2 (d.cache.map putD)),.d (.int .i64 d.fuse),.d (.bool d.off),.d (.sl 1 (d.bad.map intD))]))],some []⟩) (fun q=>g.host.toNat - q.1) ⟨0,by omega,rfl⟩ le1 (fun q=>?_)
 obtain ⟨i,hi,hf⟩:=q
 simp only at hi hf ⊢
 by_cases hlt:(i:Int)<g.host
 ·have hcmp:decide ((i:Int)<g.host)=true:=decide_eq_true hlt
  have hwi:=zp (i:=i) (by omega)
  rw [show g.host.toNat - i=(g.host.toNat - (i+1))+1 by omega,zej,hz0] at hf
  (have tk:=za zX <| za zK <| zb Tryz.prog;have fx:=hcmp;(repeat' (first|(refine hK _ ?_;clear hK K)|refine wa fun K hK=>?_|refine wb ?_|refine wc ?_ ?_|exact we|refine fun (hc:_=(_:Bool))=>?_|clear hK K));all_goals clear fx)
  all_goals first|(simp_all;done)|skip
  rename_i c0 c1
  have c0:¬(rget d p i).2≠0:=by simpa using c0
  have c1:¬(rget d ⟨[],[]⟩ i).2≠0:=by simpa using c1
  have c2:¬((rget d p i).1=0∧(rget d ⟨[],[]⟩ i).1=0):=by simpa using hc
  rw [if_neg c0,if_neg c1,if_neg c2] at hf
  exact ⟨⟨i+1,by omega,hf⟩,lew,by simp;omega⟩
 ·have hcmp:decide ((i:Int)<g.host)=false:=decide_eq_false hlt
  (have tk:=za zX <| za zK <| zb Tryz.prog;have fx:=hcmp;repeat' (first|(refine hK _ ?_;clear hK K)|refine wa fun K hK=>?_|refine wb ?_|refine wc ?_ ?_|exact we|refine fun (hc:_=(_:Bool))=>?_|clear hK K))
  rw [hf,show g.host.toNat - i=0 by omega]
  rfl
@[go_sem] noncomputable def zlW:Ent Tryz.prog 161:= .m3 zq zw zdT zqf
theorem zqg (d:Disk) (p:Plan) (g:Geom) (hp:DP d p∧g.host≤1000000):AC 84 [diskA d,planA p,geomA g] (.tup [planA (rtake d p g).1,.d (.int .i64 (rtake d p g).2.1),.d (.int .i64 (rtake d p g).2.2)]):=by
 obtain ⟨h,hg⟩:=hp
 refine fbod Tryz.func84 Tryz.ntmps84 (fun base=>?_)
 (have tk:=za zlW <| za zK <| zb Tryz.prog;repeat' (first|(refine hK _ ?_;clear hK K)|refine wa fun K hK=>?_|refine wb ?_|refine wc ?_ ?_|exact we|refine fun (hc:_=(_:Bool))=>?_|clear hK K))
 all_goals simp_all [rtake]
@[go_sem] noncomputable def zO:Ent Tryz.prog 84:= .m3 zq zw zdT zqg
end Go.Aw
