/-
  Parts of the proof: PackA, PackD (short names; the readable texts lie in the repo, under wip).
-/
import Derived.Test.YtgkjmbopnaeanaaGreatPart9
set_option maxRecDepth 100000
set_option maxHeartbeats 2000000
set_option linter.unusedSimpArgs false
set_option linter.unusedVariables false
namespace Go.Aw
open Go Go.Proofs
def padS (s:Txt) (n:Int):Txt×Int:=if n<s.length∨65536<n then ([],11) else (s++List.replicate (n - s.length).toNat 0,0)
def overS (s:Txt) (at_:Int) (t:Txt):Txt×Int:=if at_<0∨(s.length:Int) - t.length<at_ then ([],10) else (s.take at_.toNat++t++s.drop (at_+t.length).toNat,0)
def putS8 (n:Int) (size:Int):Txt:=if size<1∨8<size then [] else putN n.toNat size.toNat
def takeS (s:Txt) (size:Int):Int×Txt×Int:=if size<1∨8<size then (0,[],25) else if (s.length:Int)<size then (0,[],22) else ((takeN (s.take size.toNat):Int),s.drop size.toNat,0)
def nameB (c:UInt8):Bool:=decide (33≤c.toNat)&&decide (c.toNat≤126)
def zh9 (s:Txt):Bool:=s.all nameB&&(s != []&&decide (s.length≤8))
theorem zt2 (s:Txt) (n:Int) (hs:s.length≤9223372036854775807):AC 95 [.d (.str s),.d (.int .i64 n)] (.tup [.d (.str (padS s n).1),.d (.int .i64 (padS s n).2)]):=by
 refine fbod Tryz.func95 Tryz.ntmps95 (fun base=>?_)
 by_cases h:n<s.length∨65536<n
 ·have hdec:(decide (n<(s.length:Int))||decide (65536<n))=true:=by simpa using h
  refine' zc hdec
  rw [padS,if_pos h]
 ·have hdec:(decide (n<(s.length:Int))||decide (65536<n))=false:=by simpa using h
  have hm:IntKind.i64.wrap (n - s.length)=n - s.length:=ze (by omega) (by omega)
  refine' zc (zq hdec hm @zdx @zgl @zhC @if_true.{1})
  ·exact za2 _
  ·rw [zap,List.length_replicate];omega
  ·simp only [padS,if_neg h,zap]
@[go_sem] noncomputable def zgQ:Ent Tryz.prog 95:= .m2 strT (intT .i64) zt2
theorem zoX {a b c:Int} :(decide (a<0)||decide (b<c)||decide (b - c<a))=(decide (a<0)||decide (b - c<a)):=by
 by_cases h1:a<0
 ·simp [h1]
 ·by_cases h2:b<c
  ·rw [decide_eq_true h2,decide_eq_true (p:=b - c<a) (by omega)];simp
  ·rw [decide_eq_false h2];simp
theorem zrR (s:Txt) (at_:Int) (t:Txt) (hp:s.length≤9223372036854775807∧t.length≤9223372036854775807):AC 128 [.d (.str s),.d (.int .i64 at_),.d (.str t)] (.tup [.d (.str (overS s at_ t).1),.d (.int .i64 (overS s at_ t).2)]):=by
 obtain ⟨hs,ht⟩:=hp
 refine bod Tryz.func128 Tryz.ntmps128 (fun base=>?_)
 have hm:IntKind.i64.wrap ((s.length:Int) - t.length)=(s.length:Int) - t.length:=ze (by omega) (by omega)
 by_cases h:at_<0∨(s.length:Int) - t.length<at_
 ·have hdec:(decide (at_<0)||decide ((s.length:Int) - t.length<at_))=true:=by simpa using h
  refine' zc (zr hm @zoX hdec)
  rw [overS,if_pos h]
 ·have hdec:(decide (at_<0)||decide ((s.length:Int) - t.length<at_))=false:=by simpa using h
  have hm2:IntKind.i64.wrap (at_+t.length)=at_+t.length:=ze (by omega) (by omega)
  refine' zc (zS hm @zoX hdec hm2)
  ·rw [List.length_take];omega
  ·simp;omega
  ·simp only [overS,if_neg h]
@[go_sem] noncomputable def zag:Ent Tryz.prog 128:= .m3 strT (intT .i64) strT zrR
theorem zt3 (n size:Int) (hp:0≤n∧n<18446744073709551616):AC 80 [.d (.int .u64 n),.d (.int .i64 size)] (.d (.str (putS8 n size))):=by
 obtain ⟨h0,h1⟩:=hp
 refine fbod Tryz.func80 Tryz.ntmps80 (fun base=>?_)
 by_cases h:size<1∨8<size
 ·have hdec:(decide (size<1)||decide (8<size))=true:=by simpa using h
  refine' zc hdec
  rw [putS8,if_pos h]
 ·have hdec:(decide (size<1)||decide (8<size))=false:=by simpa using h
  obtain ⟨z,rfl,hz8⟩:∃z:Nat,size=(z:Int)∧z≤8:=⟨size.toNat,by omega,by omega⟩
  refine' zc (zk hdec natC)
  refine zo (fun q: { q:Nat×Txt // q.1≤z∧q.2.length=z∧q.2.drop (z - q.1)=putN n.toNat q.1 } =>⟨[(0,true,.d (.int .u64 n)),(1,true,.d (.int .i64 z)),(5,true,.osl 0 1 z 0 z),(6,true,.d (.int .i64 q.1.1))],[(0,.arr 1 (zi q.1.2))],some []⟩) (fun q=>z - q.1.1) ⟨(0,List.replicate z 0),Nat.zero_le _,by simp,by simp [putN]⟩ (by simp only [AS.le,leT,leH,zf,AsgK,AV.le,AV.leL,AObj.le,inH,idsT,idsH,AV.ids,AV.idsL,AV.idsR,AObj.ids,lk,hget,go_sem,aeq,aeq.aeqF,simprocAttr,zdx]<;>and_intros<;>rfl) (fun q=>?_)
  obtain ⟨⟨i,b⟩,hi,hbl,hbd⟩:=q
  simp only at hi hbl hbd ⊢
  rcases Nat.lt_or_ge i z with hlt|hge
  ·have hcmp:decide ((i:Int)<(z:Int))=true:=decide_eq_true (by omega)
   have hwi:=zn (i:=i) (by omega)
   have hm1:IntKind.i64.wrap ((z:Int) - 1)=(z:Int) - 1:=ze (by omega) (by omega)
   have hm2:IntKind.i64.wrap ((z:Int) - 1 - i)=((z - 1 - i:Nat):Int):=by rw [ze (by omega) (by omega)];omega
   have hm3:IntKind.i64.wrap (8*(i:Int))=((8*i:Nat):Int):=by rw [ze (by omega) (by omega)];omega
   have hb0:(zi b).length=z:=by rw [zi,List.length_map,hbl]
   have hbp:=zlA (b:=b) (k:=z - 1 - i) (by omega) _ (zt1 h0 (i:=i) (by omega))
   have hzi:z - 1 - i+1=z - i:=by omega
   refine' zc (zq hcmp hm1 hm2 hm3 hb0 natC)
   exact ⟨⟨(i+1,b.set (z - 1 - i) (UInt8.ofNat (n.toNat / 256 ^ i))),by omega,by simpa using hbl,by rw [zlB,← hbd,← hzi,← zt0 (by omega)];congr 1;omega⟩,by simp only [AS.le,leT,leH,zf,AsgK,AV.le,AV.leL,AObj.le,inH,idsT,idsH,AV.ids,AV.idsL,AV.idsR,AObj.ids,lk,hget,go_sem,aeq,aeq.aeqF,simprocAttr,hwi,hbp],by simp;omega⟩
  ·have hcmp:decide ((i:Int)<(z:Int))=false:=decide_eq_false (by omega)
   have hb1:(z=(zi b).length)=True:=eq_true (by rw [zi,List.length_map,hbl])
   have hb2:List.take z (zi b)=zi b:=List.take_of_length_le (by rw [zi,List.length_map,hbl];omega)
   refine' zc (zq hcmp hb1 hb2 @if_true.{1} @zap @za2)
   have:i=z:=by omega
   subst this
   rw [Nat.sub_self,List.drop_zero] at hbd
   rw [putS8,if_neg h,Int.toNat_natCast,hbd]
@[go_sem] noncomputable def zR:Ent Tryz.prog 80:= .m2 (intT .u64) (intT .i64) zt3
theorem zrS (s:Txt) (size:Int) (hs:s.length≤9223372036854775807):AC 109 [.d (.str s),.d (.int .i64 size)] (.tup [.d (.int .u64 (takeS s size).1),.d (.str (takeS s size).2.1),.d (.int .i64 (takeS s size).2.2)]):=by
 refine bod Tryz.func109 Tryz.ntmps109 (fun base=>?_)
 by_cases h:size<1∨8<size
 ·have hdec:(decide (size<1)||decide (8<size))=true:=by simpa using h
  refine' zc hdec
  rw [takeS,if_pos h]
 ·have hdec:(decide (size<1)||decide (8<size))=false:=by simpa using h
  obtain ⟨z,rfl,hz8⟩:∃z:Nat,size=(z:Int)∧z≤8:=⟨size.toNat,by omega,by omega⟩
  refine' zc (zk hdec natC)
  ·have hc:(s.length:Int)<z:=by simpa using hc
   simp only [takeS,if_neg h,if_pos hc]
  have hc:¬(s.length:Int)<z:=by simpa using hc
  refine zo (fun q: { i:Nat // i≤z } =>⟨[(0,true,.d (.str s)),(1,true,.d (.int .i64 z)),(7,true,.d (.int .u64 (takeN (s.take q.1)))),(8,true,.d (.int .i64 q.1))],[],some []⟩) (fun q=>z - q.1) ⟨0,Nat.zero_le _⟩ le1 (fun q=>?_)
  obtain ⟨i,hi⟩:=q
  simp only at hi ⊢
  rcases Nat.lt_or_ge i z with hlt|hge
  ·have hcmp:decide ((i:Int)<(z:Int))=true:=decide_eq_true (by omega)
   have hwi:=zn (i:=i) (by omega)
   obtain ⟨c,hq⟩:=zai (l:=s) (i:=i) (by omega)
   have hgd:s.getD i 0=c:=by rw [List.getD_eq_getElem?_getD,hq];rfl
   have hst:=zrQ hq (by omega)
   refine' zc (zr hcmp hgd natC)
   exact ⟨⟨i+1,by omega⟩,by simp only [AS.le,leT,leH,zf,AsgK,AV.le,AV.leL,AObj.le,inH,idsT,idsH,AV.ids,AV.idsL,AV.idsR,AObj.ids,lk,hget,go_sem,aeq,aeq.aeqF,simprocAttr,hwi,hst],by simp;omega⟩
  ·have hcmp:decide ((i:Int)<(z:Int))=false:=decide_eq_false (by omega)
   refine' zc (zk hcmp natC)
   have:i=z:=by omega
   subst this
   simp only [takeS,if_neg h,if_neg hc,Int.toNat_natCast]
@[go_sem] noncomputable def zaS:Ent Tryz.prog 109:= .m2 strT (intT .i64) zrS
theorem zlC (c:UInt8):(decide ((c.toNat:Int)<33)||decide ((126:Int)<c.toNat))= !nameB c:=by
 rw [nameB,Bool.not_and]
 congr 1
 ·by_cases h:c.toNat<33
  ·rw [decide_eq_true (p:=(c.toNat:Int)<33) (by omega),decide_eq_false (by omega)];rfl
  ·rw [decide_eq_false (p:=(c.toNat:Int)<33) (by omega),decide_eq_true (by omega)];rfl
 ·by_cases h:126<c.toNat
  ·rw [decide_eq_true (p:=(126:Int)<c.toNat) (by omega),decide_eq_false (by omega)];rfl
  ·rw [decide_eq_false (p:=(126:Int)<c.toNat) (by omega),decide_eq_true (by omega)];rfl
theorem zwe (n k:Nat):decide ((n:Int)≤k)=decide (n≤k):=by
 by_cases h:n≤k
 ·rw [decide_eq_true h,decide_eq_true (by omega)]
 ·rw [decide_eq_false h,decide_eq_false (by omega)]
theorem zpW (s:Txt) (hs:s.length≤9223372036854775807):ACall Tryz.prog 64 0 [.d (.str s)] [] (fun r _=>r= .d (.bool (zh9 s))):=by
 refine bod Tryz.func64 Tryz.ntmps64 (fun base=>?_)
 refine' zc fx
 refine zo (fun q: { i:Nat // i≤s.length∧s.all nameB=(s.drop i).all nameB } =>⟨[(0,true,.d (.str s)),(3,true,.d (.int .i64 q.1))],[],some []⟩) (fun q=>s.length - q.1) ⟨0,Nat.zero_le _,rfl⟩ le1 (fun q=>?_)
 obtain ⟨i,hi,hf⟩:=q
 simp only at hi hf ⊢
 rcases Nat.lt_or_ge i s.length with hlt|hge
 ·have hcmp:decide ((i:Int)<(s.length:Int))=true:=decide_eq_true (by omega)
  have hwi:=zn (i:=i) (by omega)
  obtain ⟨c,hq⟩:=zai (l:=s) (i:=i) (by omega)
  have hgd:s.getD i 0=c:=by rw [List.getD_eq_getElem?_getD,hq];rfl
  rw [zdQ hq,List.all_cons] at hf
  refine' zc (zr hcmp hgd natC)
  ·rw [zlC] at hc
   have hc:nameB c=false:=by simpa using hc
   rw [zh9,hf,hc];rfl
  ·rw [zlC] at hc
   have hc:nameB c=true:=by simpa using hc
   rw [hc,Bool.true_and] at hf
   exact ⟨⟨i+1,by omega,hf⟩,lew,by simp;omega⟩
 ·have hcmp:decide ((i:Int)<(s.length:Int))=false:=decide_eq_false (by omega)
  refine' zc (zk hcmp natC)
  rw [zh9,hf,List.drop_of_length_le (by omega),show (8:Int)=((8:Nat):Int) from rfl,zwe]
  rfl
@[go_sem] noncomputable def zd7:Ent Tryz.prog 64:= .ofL (consL strT nilL) (fun (s,_)=>s.length≤9223372036854775807) (fun (s,_)=> .d (.bool (zh9 s))) (fun (s,_) hp=>⟨rfl,zpW s hp⟩)
open Go Go.Proofs
def zeC (z i:Nat):List AV:= [.d (.int .i64 ((z:Int) - 1 - i)),.any]
def zbG (z:Nat):List (List AV):=(List.range z).map (zeC z)
def putB (m z i:Nat):Txt:=List.replicate (z - i) 0++putN m i
def putH (m z i:Nat):AHeap:= [(3,.var [.osl 1 1 z 0 z]),(2,.var [.osl 1 1 z 0 z]),(1,.arr 1 (zi (putB m z i))),(0,.var [.d (.int .u64 ((m / 256 ^ i:Nat):Int))])]
def putF (m z i:Nat):AS:=⟨[(1,true,.vp 3 0)],putH m z i,some []⟩
theorem zgm {m z i:Nat} (h:i≤z):(putB m z i).length=z:=by
 rw [putB,List.length_append,List.length_replicate,zu];omega
theorem zkl (z:Nat):(zbG z).length=z:=by simp [zbG]
theorem zr0 {z i:Nat} (h:i<z):(zbG z)[i]?=some (zeC z i):=by simp [zbG,h]
theorem zlJ {z i:Nat} (h:i<z):(zbG z).take i++ [zeC z i]=(zbG z).take (i+1):=by
 rw [zcz (zr0 h)]
theorem zr1 {m z:Nat} (hz:z≤8) (y:Yo Tryz.prog (zbG z)) (v0:Value)
  (hS:∀g M N A w,y.G g M N A w→∃F,∃i,i≤z∧SatH F (putH m z i) w∧Rep w F (putH m z i) (.vp 3 0) v0) {E:Env} {w:World} (hs:SatH E [] w) (hG:y.G (some []) E.M E.N (Own E []) w):
  Calls Tryz.prog 177 (#[]++ #[Value.func (.yield y.yl) #[] #[]]++ #[v0]) w (fun e w'=>∃v E' h' g,e= .returned v∧((∀xs,g=some xs→xs=zbG z)∧h'= [])∧SatH E' h' w'∧Evo 100 E [] w E' h' w'∧y.G g E'.M E'.N (Own E' h') w'):=by
 refine zlk (fl:=100) (pre:= []) (caps:= [.raw v0]) (h:= []) (K:=fun g h'=>(∀xs,g=some xs→xs=zbG z)∧h'= []) Tryz.func177 rfl Tryz.ntmps177 rfl (by simp) y (fun base=>?_) hs (by simp [Reps]) (by simp [Reps,Rep]) hG
 have hS':∀t:List (Nat×(Bool×AV)),lk t 1=some (true,.raw v0)→∀g M N A w,y.G g M N A w→∃F,∃b: { i:Nat // i≤z },SatH F (putF m z b.1).h w∧∀k g v,lk (putF m z b.1).t k=some (g,v)→g=true∧∃u,lk t k=some (true,.raw u)∧Rep w F (putF m z b.1).h v u:=by
  intro t ht g M N A w hg
  obtain ⟨F,i,hi,h1,h2⟩:=hS g M N A w hg
  refine ⟨F,⟨i,hi⟩,h1,?_⟩
  intro k g v hk
  simp only [putF,lk] at hk
  split at hk
  ·rename_i e
   subst e
   simp only [Option.some.injEq,Prod.mk.injEq] at hk
   obtain ⟨rfl,rfl⟩:=hk
   exact ⟨rfl,v0,ht,h2⟩
  ·cases hk
 have hw0:IntKind.i64.wrap ((z:Int) - 1)=(z:Int) - 1:=ze (by omega) (by omega)
 simp only [List.nil_append,za0]
 refine zfS noTab (zb _) _ _ (List.take_append_drop 4 _).symm (fun b: { i:Nat // i≤z } =>putF m z b.1) (hS' _ rfl) (fun K hK b=>?_)
 simp only [go_sem,aeq,aeq.aeqF,simprocAttr,putF,putH]
 refine ⟨by rw [zcp,zgm b.2],hK _ ?_⟩
 clear hK K b
 refine zaZ ?_
 refine zo (fun q: { j:Nat // j≤z } =>⟨[(0,true,.fn (.yield y.yl) [] []),(1,true,.raw v0),(3,true,.d (.int .i64 ((z:Int) - 1 - q.1)))],[],some ((zbG z).take q.1)⟩) (fun q=>z - q.1) ⟨0,Nat.zero_le _⟩ (by simp only [AS.le,leT,leH,zf,AsgK,AV.le,AV.leL,AObj.le,inH,idsT,idsH,AV.ids,AV.idsL,AV.idsR,AObj.ids,lk,hget,go_sem,aeq,aeq.aeqF,simprocAttr,hw0]<;>simp) (fun q=>?_)
 obtain ⟨j,hj⟩:=q
 simp only at hj ⊢
 rcases Nat.lt_or_ge j z with hlt|hge
 ·have hcmp:decide ((0:Int)≤(z:Int) - 1 - j)=true:=decide_eq_true (by omega)
  have hwj:IntKind.i64.wrap ((z:Int) - 1 - j - 1)=(z:Int) - 1 - (j+1:Nat):=by rw [ze (by omega) (by omega)];omega
  have hp:((zbG z).take j++ [zeC z j])<+:zbG z:=by rw [zlJ hlt];exact List.take_prefix _ _
  have hpt:=zlJ hlt
  simp only [zeC] at hp hpt
  refine' zrH (zbh 3) hcmp
  refine zfS noTab (zb _) _ _ (List.take_append_drop 6 _).symm (fun b: { i:Nat // i≤z } =>putF m z b.1) (hS' _ rfl) (fun K hK b=>?_)
  have h3:((z:Int) - 1 - j).toNat<z:=by omega
  have hbl:(zi (putB m z b.1)).length=z:=by rw [zcp,zgm b.2]
  simp only [go_sem,aeq,aeq.aeqF,simprocAttr,putF,putH,hbl]
  refine ⟨⟨by omega,by omega⟩,h3,hp,?_,?_⟩
  ·refine hK _ ?_
   clear hK K
   refine' zaz fx
   exact ⟨⟨j+1,by omega⟩,by simp only [AS.le,leT,leH,zf,AsgK,AV.le,AV.leL,AObj.le,inH,idsT,idsH,AV.ids,AV.idsL,AV.idsR,AObj.ids,lk,hget,go_sem,aeq,aeq.aeqF,simprocAttr,hwj,hpt],by simp;omega⟩
  ·refine hK _ ?_
   clear hK K
   refine' zaz fx
 ·have hcmp:decide ((0:Int)≤(z:Int) - 1 - j)=false:=decide_eq_false (by omega)
  refine' zaz hcmp
  rintro xs rfl
  exact List.take_of_length_le (by rw [zkl];omega)
theorem zlK (m z:Nat):putH m z 0= [(3,.var [.osl 1 1 z 0 z]),(2,.var [.osl 1 1 z 0 z]),(1,.arr 1 (List.replicate z [D.int .u8 0])),(0,.var [.d (.int .u64 (m:Int))])]:=by
 rw [putH,putB,zdx];simp [putN]
theorem zue (m z:Nat):ACall Tryz.prog 138 3 [.osl 1 1 z 0 z] [(2,.var [.osl 1 1 z 0 z]),(1,.arr 1 (List.replicate z [D.int .u8 0])),(0,.var [.d (.int .u64 (m:Int))])] (fun r h'=>r= .fn (.func 177) [] [.vp 3 0]∧h'=putH m z 0):=by
 refine bod Tryz.func138 Tryz.ntmps138 (fun base=>?_)
 refine' zc fx
 rw [zlK]
theorem zxx (n:Int) (size:Int) (h0:0≤n) (h1:n<18446744073709551616):ACall Tryz.prog 112 0 [.d (.int .u64 n),.d (.int .i64 size)] [] (fun r _=>r= .d (.str (putS8 n size))):=by
 refine fbod Tryz.func112 Tryz.ntmps112 (fun base=>?_)
 by_cases h:size<1∨8<size
 ·have hdec:(decide (size<1)||decide (8<size))=true:=by simpa using h
  refine' zb9 hdec
  rw [putS8,if_pos h]
 ·have hdec:(decide (size<1)||decide (8<size))=false:=by simpa using h
  obtain ⟨z,rfl,hz8⟩:∃z:Nat,size=(z:Int)∧z≤8:=⟨size.toNat,by omega,by omega⟩
  refine' zb9 (zk hdec natC)
  obtain ⟨m,rfl⟩:∃m:Nat,n=m:=⟨n.toNat,by omega⟩
  refine ((zue m z).whole (z2 rfl) (Nat.zero_le _) (by rintro r h' ⟨_,rfl⟩ i hi;rw [zlK];simp only [hget] at hi ⊢;repeat' split<;>simp_all)).mono ?_
  rintro r h' ⟨rfl,rfl⟩
  refine hK _ ?_
  clear hK K
  refine zaZ ?_
  rw [zlK]
  refine aw_le ⟨[(16,true,.fn (.func 177) [] [.vp 3 0]),(5,true,.vp 2 0),(2,true,.vp 0 0)],[(3,.var [.osl 1 1 z 0 z]),(2,.var [.osl 1 1 z 0 z]),(1,.arr 1 (List.replicate z [D.int .u8 0])),(0,.var [.d (.int .u64 (m:Int))])],some []⟩ le0 ?_
  obtain ⟨I,hI⟩:∃I:List (List AV)→AHeap×Option (List (List AV)),I=fun xs=>(putH m z (min xs.length z),some []):=⟨_,rfl⟩
  refine zp1 (q:=3) (items:=zbG z) 100 I rfl rfl (zdn Tryz.func177 (by kernel_rfl) rfl) ?_ ?_ (by simp [cxOf]) ?_ ?_ ?_ ?_ ?_ ?_ ?_ ?_ ?_
  ·intro y v0 hy E w hs hG
   refine zr1 (m:=m) hz8 y v0 (fun g M N A w hg=>?_) hs hG
   obtain ⟨F,xs,q1,q2⟩:=hy g M N A w hg
   rw [hI] at q1 q2
   exact ⟨F,_,Nat.min_le_right _ _,q1,q2⟩
  ·exact z2 rfl
  ·exact ⟨_,rfl⟩
  ·intro xs
   rw [hI]
   exact ⟨_,rfl⟩
  ·rw [hI]
   simp only [List.length_nil,Nat.zero_min,zlK]
   simp only [AS.le,leT,leH,zf,AsgK,AV.le,AV.leL,AObj.le,inH,idsT,idsH,AV.ids,AV.idsL,AV.idsR,AObj.ids,lk,hget,go_sem,aeq,aeq.aeqF,simprocAttr]
  ·rw [hI]
   simp only [List.length_nil,Nat.zero_min,zlK]
   simp only [AS.le,leT,leH,zf,AsgK,AV.le,AV.leL,AObj.le,inH,idsT,idsH,AV.ids,AV.idsL,AV.idsR,AObj.ids,lk,hget,go_sem,aeq,aeq.aeqF,simprocAttr]
  ·rw [hI]
  ·intro x hx
   obtain ⟨i,_,rfl⟩:=List.mem_map.1 hx
   rfl
  ·intro t ht
   simp at ht
   rcases ht with rfl|rfl<;>simp [cxOf]
  ·intro xs x hpre l1 r1
   have hlt:xs.length<z:=by
    have:=hpre.length_le
    rw [List.length_append,zkl] at this
    simp only [List.length_singleton] at this
    omega
   have hx:x=zeC z xs.length:=by
    obtain ⟨r,hr⟩:=hpre
    have:=congrArg (fun l=>l[xs.length]?) hr
    simp only [zr0 hlt] at this
    simpa using this
   subst hx
   have hmin:min xs.length z=xs.length:=by omega
   have hmin':min (xs.length+1) z=xs.length+1:=by omega
   rw [hI]
   simp only [hmin,List.length_append,List.length_singleton,hmin',zeC]
   generalize xs.length=i at hlt
   clear hmin hmin' hpre hI
   have hbl:(zi (putB m z i)).length=z:=by rw [zcp,zgm (by omega)]
   have hto:((z:Int) - 1 - i).toNat=z - 1 - i:=by omega
   have hlt2:decide ((z:Int) - 1 - i<z)=true:=decide_eq_true (by omega)
   have hle2:decide (0≤(z:Int) - 1 - i)=true:=decide_eq_true (by omega)
   have hby:IntKind.u8.wrap ((m / 256 ^ i:Nat):Int)=((UInt8.ofNat (m / 256 ^ i)).toNat:Int):=u8_of _
   have hsh:ishr .u64 ((m / 256 ^ i:Nat):Int) 8=((m / 256 ^ (i+1):Nat):Int):=by
    rw [show (8:Int)=((8:Nat):Int) from rfl,zvH _ _ (by omega),Nat.div_div_eq_div_mul,Nat.pow_succ 256 i]
   have hset:(zi (putB m z i)).set (z - 1 - i) (((zi (putB m z i)).getD (z - 1 - i) []).set 0 (D.int .u8 (IntKind.u8.wrap ((m / 256 ^ i:Nat):Int))))=zi (putB m z (i+1)):=by
    rw [zlA (by rw [zgm (by omega)];omega) _ hby]
    congr 1
    have e1:z - i=(z - 1 - i)+1:=by omega
    have e2:z - (i+1)=z - 1 - i:=by omega
    rw [putB,putB,e1,e2,zlB,List.replicate_succ',List.append_assoc,List.set_append,if_neg (by simp)]
    simp
   refine aw_le ⟨[(17,true,.d (.int .i64 ((z:Int) - 1 - i))),(5,true,.vp 2 0),(2,true,.vp 0 0)],[(3,.var [.osl 1 1 z 0 z]),(2,.var [.osl 1 1 z 0 z]),(1,.arr 1 (zi (putB m z i))),(0,.var [.d (.int .u64 ((m / 256 ^ i:Nat):Int))])],some []⟩ (by rw [putH];simp only [AS.le,leT,leH,zf,AsgK,AV.le,AV.leL,AObj.le,inH,idsT,idsH,AV.ids,AV.idsL,AV.idsR,AObj.ids,lk,hget,go_sem,aeq,aeq.aeqF,simprocAttr]) ?_
   (have tk:=zb Tryz.prog);repeat' (first|((first|(refine sa ?_;intro K hK)|refine sb ?_);simp only [go_sem,aeq,aeq.aeqF,simprocAttr,hbl,hto,hset,hsh,Tryz.results112])|refine zae (fun K hK=>?_)|refine sc ?_|refine zar rfl (fun hc=>?_) (fun hc=>?_)|(refine hK _ ?_;clear hK K)|((first|refine (show AS.le _ _ from ?_)|refine (show leH _ _ from ?_)|refine (show inH _ _ from ?_));simp only [AS.le,leT,leH,zf,AsgK,AV.le,AV.leL,AObj.le,inH,idsT,idsH,AV.ids,AV.idsL,AV.idsR,AObj.ids,lk,hget,go_sem,aeq,aeq.aeqF,simprocAttr,hbl,hto,hset,hsh])|refine fun (r2:Rnd _)=>?_|with_reducible refine And.intro ?_ ?_|exact ‹_<+:_› |omega|assumption|refine fun (hg:(_:Bool)=(_:Bool))=>?_|clear hK K)
   ·rw [putH];simp only [AS.le,leT,leH,zf,AsgK,AV.le,AV.leL,AObj.le,inH,idsT,idsH,AV.ids,AV.idsL,AV.idsR,AObj.ids,lk,hget,go_sem,aeq,aeq.aeqF,simprocAttr]
   ·rw [putH];simp only [AS.le,leT,leH,zf,AsgK,AV.le,AV.leL,AObj.le,inH,idsT,idsH,AV.ids,AV.idsL,AV.idsR,AObj.ids,lk,hget,go_sem,aeq,aeq.aeqF,simprocAttr]
  ·have hmin:min (zbG z).length z=z:=by rw [zkl];omega
   rw [hI]
   simp only [hmin]
   have hbl:(zi (putB m z z)).length=z:=by rw [zcp,zgm (by omega)]
   have hput:putB m z z=putN m z:=by rw [putB,Nat.sub_self];rfl
   have hbl2:(z=(zi (putB m z z)).length)=True:=eq_true hbl.symm
   have hbl3:List.take z (zi (putB m z z))=zi (putB m z z):=List.take_of_length_le (by omega)
   (have tk:=zb Tryz.prog);repeat' (first|((first|(refine sa ?_;intro K hK)|refine sb ?_);simp only [go_sem,aeq,aeq.aeqF,simprocAttr,putH,hbl,Tryz.results112])|refine zae (fun K hK=>?_)|refine sc ?_|refine zar rfl (fun hc=>?_) (fun hc=>?_)|(refine hK _ ?_;clear hK K)|((first|refine (show AS.le _ _ from ?_)|refine (show leH _ _ from ?_)|refine (show inH _ _ from ?_));simp only [AS.le,leT,leH,zf,AsgK,AV.le,AV.leL,AObj.le,inH,idsT,idsH,AV.ids,AV.idsL,AV.idsR,AObj.ids,lk,hget,go_sem,aeq,aeq.aeqF,simprocAttr,putH,hbl])|refine fun (r2:Rnd _)=>?_|with_reducible refine And.intro ?_ ?_|exact ‹_<+:_› |omega|assumption|refine fun (hg:(_:Bool)=(_:Bool))=>?_|clear hK K)
   ·rw [hbl3];exact za2 _
   ·have hn:(z:Int) - 1=z - 1:=rfl
    rw [hbl3,zap,hput,putS8,if_neg h]
    rfl
@[go_sem] noncomputable def zbH:Ent Tryz.prog 112:= .ofL (consL (intT .u64) (consL (intT .i64) nilL)) (fun (n,size,_)=>(0≤n)∧(n<18446744073709551616)) (fun (n,size,_)=> .d (.str (putS8 n size))) (fun (n,size,_) hp=>⟨rfl,zxx n size hp.1 hp.2⟩)
end Go.Aw
