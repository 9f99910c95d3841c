/-
 Parts of the proof: lemmas.
-/
import Derived.Test.YtgldbfelccddbaaGreatPart8
set_option maxRecDepth 100000
set_option maxHeartbeats 2000000
set_option linter.unusedSimpArgs false
set_option linter.unusedVariables false
namespace Go.Aw
open Go Go.Proofs
def padS (s:Txt) (n:Int):Txt×Int:=if n<s.length∨65536<n then ([],11) else (s++List.replicate (n - s.length).toNat 0,0)
def overS (s:Txt) (at_:Int) (t:Txt):Txt×Int:=if at_<0∨(s.length:Int) - t.length<at_ then ([],10) else (s.take at_.toNat++t++s.drop (at_+t.length).toNat,0)
def putS8 (n:Int) (size:Int):Txt:=if size<1∨8<size then [] else putN n.toNat size.toNat
def takeS (s:Txt) (size:Int):Int×Txt×Int:=if size<1∨8<size then (0,[],25) else if (s.length:Int)<size then (0,[],22) else ((takeN (s.take size.toNat):Int),s.drop size.toNat,0)
def nameB (c:UInt8):Bool:=decide (33≤c.toNat)&&decide (c.toNat≤126)
def zht (s:Txt):Bool:=s.all nameB&&(s != []&&decide (s.length≤8))
theorem zvt (s:Txt) (n:Int) (hs:s.length≤9223372036854775807):AC 154 [.d (.str s),.d (.int .i64 n)] (.tup [.d (.str (padS s n).1),.d (.int .i64 (padS s n).2)]):=by
 refine fbod Tryz.func154 Tryz.ntmps154 (fun base=>?_)
 by_cases h:n<s.length∨65536<n
 ·have hdec:(decide (n<(s.length:Int))||decide (65536<n))=true:=by simpa using h
  refine' zc hdec
  rw [padS,if_pos h]
 ·have hdec:(decide (n<(s.length:Int))||decide (65536<n))=false:=by simpa using h
  have hm:IntKind.i64.wrap (n - s.length)=n - s.length:=zi U U
  refine' zc (zo hdec hm @zcB @zeQ @zgd @if_true.{1})
  ·exact zaD _
  ·rw [z8,List.length_replicate];omega
  ·simp only [padS,if_neg h,z8]
@[go_sem] noncomputable def zgZ:Ent Tryz.prog 154:= .m2 strT (intT .i64) zvt
theorem zpE {a b c:Int} :(decide (a<0)||decide (b<c)||decide (b - c<a))=(decide (a<0)||decide (b - c<a)):=by
 by_cases h1:a<0
 ·simp [h1]
 ·by_cases h2:b<c
  ·rw [decide_eq_true h2,decide_eq_true (p:=b - c<a) U];simp
  ·rw [decide_eq_false h2];simp
theorem zsX (s:Txt) (at_:Int) (t:Txt) (hp:s.length≤9223372036854775807∧t.length≤9223372036854775807):AC 223 [.d (.str s),.d (.int .i64 at_),.d (.str t)] (.tup [.d (.str (overS s at_ t).1),.d (.int .i64 (overS s at_ t).2)]):=by
 obtain ⟨hs,ht⟩:=hp
 refine bod Tryz.func223 Tryz.ntmps223 (fun base=>?_)
 have hm:IntKind.i64.wrap ((s.length:Int) - t.length)=(s.length:Int) - t.length:=zi U U
 by_cases h:at_<0∨(s.length:Int) - t.length<at_
 ·have hdec:(decide (at_<0)||decide ((s.length:Int) - t.length<at_))=true:=by simpa using h
  refine' zc (zq hm @zpE hdec)
  rw [overS,if_pos h]
 ·have hdec:(decide (at_<0)||decide ((s.length:Int) - t.length<at_))=false:=by simpa using h
  have hm2:IntKind.i64.wrap (at_+t.length)=at_+t.length:=zi U U
  refine' zc (zE hm @zpE hdec hm2)
  ·rw [List.length_take];omega
  ·simp;omega
  ·simp only [overS,if_neg h]
@[go_sem] noncomputable def zag:Ent Tryz.prog 223:= .m3 strT (intT .i64) strT zsX
theorem zvu (n size:Int) (hp:0≤n∧n<18446744073709551616):AC 153 [.d (.int .u64 n),.d (.int .i64 size)] (.d (.str (putS8 n size))):=by
 obtain ⟨h0,h1⟩:=hp
 refine fbod Tryz.func153 Tryz.ntmps153 (fun base=>?_)
 by_cases h:size<1∨8<size
 ·have hdec:(decide (size<1)||decide (8<size))=true:=by simpa using h
  refine' zc hdec
  rw [putS8,if_pos h]
 ·have hdec:(decide (size<1)||decide (8<size))=false:=by simpa using h
  obtain ⟨z,rfl,hz8⟩:∃z:Nat,size=(z:Int)∧z≤8:=⟨size.toNat,U,U⟩
  refine' zc (zj hdec natC)
  refine zk (fun q: { q:Nat×Txt // q.1≤z∧q.2.length=z∧q.2.drop (z - q.1)=putN n.toNat q.1 } =>⟨[(0,true,.d (.int .u64 n)),(1,true,.d (.int .i64 z)),(5,true,.osl 0 1 z 0 z),(6,true,.d (.int .i64 q.1.1))],[(0,.arr 1 (ze q.1.2))],some []⟩) (fun q=>z - q.1.1) ⟨(0,List.replicate z 0),Nat.zero_le _,aa,by simp [putN]⟩ (by simp only [AS.le,leT,leH,zf,AsgK,AV.le,AV.leL,AObj.le,inH,idsT,idsH,AV.ids,AV.idsL,AV.idsR,AObj.ids,lk,hget,go_sem,aeq,aeq.aeqF,simprocAttr,zcB]<;>and_intros<;>rfl) (fun q=>?_)
  obtain ⟨⟨i,b⟩,hi,hbl,hbd⟩:=q
  simp only at hi hbl hbd ⊢
  rcases Nat.lt_or_ge i z with hlt|hge
  ·have hcmp:decide ((i:Int)<(z:Int))=true:=decide_eq_true U
   have hwi:=zn (i:=i) U
   have hm1:IntKind.i64.wrap ((z:Int) - 1)=(z:Int) - 1:=zi U U
   have hm2:IntKind.i64.wrap ((z:Int) - 1 - i)=((z - 1 - i:Nat):Int):=aE
   have hm3:IntKind.i64.wrap (8*(i:Int))=((8*i:Nat):Int):=aE
   have hb0:(ze b).length=z:=bC
   have hbp:=zl9 (b:=b) (k:=z - 1 - i) U _ (zvs h0 (i:=i) U)
   have hzi:z - 1 - i+1=z - i:=U
   refine' zc (zo hcmp hm1 hm2 hm3 hb0 natC)
   exact ⟨⟨(i+1,b.set (z - 1 - i) (UInt8.ofNat (n.toNat / 256 ^ i))),U,by simpa using hbl,by rw [zma,← hbd,← hzi,← zvr U];congr 1;omega⟩,by simp only [AS.le,leT,leH,zf,AsgK,AV.le,AV.leL,AObj.le,inH,idsT,idsH,AV.ids,AV.idsL,AV.idsR,AObj.ids,lk,hget,go_sem,aeq,aeq.aeqF,simprocAttr,hwi,hbp],af⟩
  ·have hcmp:decide ((i:Int)<(z:Int))=false:=decide_eq_false U
   have hb1:(z=(ze b).length)=True:=eq_true bC
   have hb2:List.take z (ze b)=ze b:=List.take_of_length_le dc
   refine' zc (zo hcmp hb1 hb2 @if_true.{1} @z8 @zaD)
   have:i=z:=U
   subst this
   rw [Nat.sub_self,List.drop_zero] at hbd
   rw [putS8,if_neg h,Int.toNat_natCast,hbd]
@[go_sem] noncomputable def zt:Ent Tryz.prog 153:= .m2 (intT .u64) (intT .i64) zvu
theorem zsY (s:Txt) (size:Int) (hs:s.length≤9223372036854775807):AC 191 [.d (.str s),.d (.int .i64 size)] (.tup [.d (.int .u64 (takeS s size).1),.d (.str (takeS s size).2.1),.d (.int .i64 (takeS s size).2.2)]):=by
 refine bod Tryz.func191 Tryz.ntmps191 (fun base=>?_)
 by_cases h:size<1∨8<size
 ·have hdec:(decide (size<1)||decide (8<size))=true:=by simpa using h
  refine' zc hdec
  rw [takeS,if_pos h]
 ·have hdec:(decide (size<1)||decide (8<size))=false:=by simpa using h
  obtain ⟨z,rfl,hz8⟩:∃z:Nat,size=(z:Int)∧z≤8:=⟨size.toNat,U,U⟩
  refine' zc (zj hdec natC)
  ·have hc:(s.length:Int)<z:=by simpa using hc
   simp only [takeS,if_neg h,if_pos hc]
  have hc:¬(s.length:Int)<z:=ak
  refine zk (fun q: { i:Nat // i≤z } =>⟨[(0,true,.d (.str s)),(1,true,.d (.int .i64 z)),(7,true,.d (.int .u64 (takeN (s.take q.1)))),(8,true,.d (.int .i64 q.1))],[],some []⟩) (fun q=>z - q.1) ⟨0,Nat.zero_le _⟩ le1 (fun q=>?_)
  obtain ⟨i,hi⟩:=q
  simp only at hi ⊢
  rcases Nat.lt_or_ge i z with hlt|hge
  ·have hcmp:decide ((i:Int)<(z:Int))=true:=decide_eq_true U
   have hwi:=zn (i:=i) U
   obtain ⟨c,hq⟩:=zaH (l:=s) (i:=i) U
   have hgd:s.getD i 0=c:=by rw [List.getD_eq_getElem?_getD,hq];rfl
   have hst:=zsW hq U
   refine' zc (zq hcmp hgd natC)
   exact ⟨⟨i+1,U⟩,dP,af⟩
  ·have hcmp:decide ((i:Int)<(z:Int))=false:=decide_eq_false U
   refine' zc (zj hcmp natC)
   have:i=z:=U
   subst this
   simp only [takeS,if_neg h,if_neg hc,Int.toNat_natCast]
@[go_sem] noncomputable def zp:Ent Tryz.prog 191:= .m2 strT (intT .i64) zsY
theorem zmb (c:UInt8):(decide ((c.toNat:Int)<33)||decide ((126:Int)<c.toNat))= !nameB c:=by
 rw [nameB,Bool.not_and]
 congr 1
 ·by_cases h:c.toNat<33
  ·rw [decide_eq_true (p:=(c.toNat:Int)<33) U,decide_eq_false U];rfl
  ·rw [decide_eq_false (p:=(c.toNat:Int)<33) U,decide_eq_true U];rfl
 ·by_cases h:126<c.toNat
  ·rw [decide_eq_true (p:=(126:Int)<c.toNat) U,decide_eq_false U];rfl
  ·rw [decide_eq_false (p:=(126:Int)<c.toNat) U,decide_eq_true U];rfl
theorem zxE (n k:Nat):decide ((n:Int)≤k)=decide (n≤k):=by
 by_cases h:n≤k
 ·rw [decide_eq_true h,decide_eq_true U]
 ·rw [decide_eq_false h,decide_eq_false U]
theorem zqE (s:Txt) (hs:s.length≤9223372036854775807):ACall Tryz.prog 28 0 [.d (.str s)] [] (fun r _=>r= .d (.bool (zht s))):=by
 refine bod Tryz.func28 Tryz.ntmps28 (fun base=>?_)
 refine' zc fx
 refine zk (fun q: { i:Nat // i≤s.length∧s.all nameB=(s.drop i).all nameB } =>⟨[(0,true,.d (.str s)),(3,true,.d (.int .i64 q.1))],[],some []⟩) (fun q=>s.length - q.1) ⟨0,Nat.zero_le _,rfl⟩ le1 (fun q=>?_)
 obtain ⟨i,hi,hf⟩:=q
 simp only at hi hf ⊢
 rcases Nat.lt_or_ge i s.length with hlt|hge
 ·have hcmp:decide ((i:Int)<(s.length:Int))=true:=decide_eq_true U
  have hwi:=zn (i:=i) U
  obtain ⟨c,hq⟩:=zaH (l:=s) (i:=i) U
  have hgd:s.getD i 0=c:=by rw [List.getD_eq_getElem?_getD,hq];rfl
  rw [zeg hq,List.all_cons] at hf
  refine' zc (zq hcmp hgd natC)
  ·rw [zmb] at hc
   have hc:nameB c=false:=ak
   rw [zht,hf,hc];rfl
  ·rw [zmb] at hc
   have hc:nameB c=true:=ak
   rw [hc,Bool.true_and] at hf
   exact ⟨⟨i+1,U,hf⟩,lew,af⟩
 ·have hcmp:decide ((i:Int)<(s.length:Int))=false:=decide_eq_false U
  refine' zc (zj hcmp natC)
  rw [zht,hf,List.drop_of_length_le U,show (8:Int)=((8:Nat):Int) from rfl,zxE]
  rfl
@[go_sem] noncomputable def zdL:Ent Tryz.prog 28:= .ofL (consL strT nilL) (fun (s,_)=>s.length≤9223372036854775807) (fun (s,_)=> .d (.bool (zht s))) (fun (s,_) hp=>⟨rfl,zqE s hp⟩)
open Go Go.Proofs
theorem zyJ (k s:Nat) (hs:s≤64) (h:k*2 ^ s<18446744073709551616):ishl .u64 (k:Int) (s:Int)=((k*2 ^ s:Nat):Int):=by
 unfold ishl
 rw [show min ((s:Int).toNat) IntKind.u64.bits=s by show min ((s:Int).toNat) 64=s;omega,IntKind.wrap_u64]
 have:(k:Int)*2 ^ s=((k*2 ^ s:Nat):Int):=by norm_cast
 rw [this]
 omega
theorem zqF (a b:Nat) (ha:a<18446744073709551616) (hb:b<18446744073709551616):ibits .or .u64 (a:Int) (b:Int)=((a ||| b:Nat):Int):=by
 have hab:a ||| b<18446744073709551616:=Nat.or_lt_two_pow (n:=64) ha hb
 unfold ibits
 simp only [show IntKind.u64.bits=64 from rfl,BitVec.ofInt_natCast,BitVec.toNat_or,BitVec.toNat_ofNat]
 rw [Nat.mod_eq_of_lt U,Nat.mod_eq_of_lt U,IntKind.wrap_u64]
 omega
theorem zqG {l:Txt} {i:Nat} {c:UInt8} (hq:l[i]?=some c) (hi:i<8):ibits .or .u64 (ishl .u64 ((takeN (l.take i):Nat):Int) 8) (IntKind.u64.wrap (c.toNat:Int))=((takeN (l.take (i+1)):Nat):Int):=by
 have h1:takeN (l.take i)<256 ^ 7:=zdf ax
 have h2:=c.toNat_lt
 rw [zA (x:=(c.toNat:Int)) U U,show (8:Int)=((8:Nat):Int) from rfl,zyJ _ _ U U,zqF _ _ U U,zcz hq,zgY,← Nat.shiftLeft_eq,← Nat.shiftLeft_add_eq_or_of_lt (i:=8) U,Nat.shiftLeft_eq]
theorem zxF (s:Txt) (size:Int) (hs:s.length≤9223372036854775807):AC 147 [.d (.str s),.d (.int .i64 size)] (.tup [.d (.int .u64 (takeS s size).1),.d (.str (takeS s size).2.1),.d (.int .i64 (takeS s size).2.2)]):=by
 refine fbod Tryz.func147 Tryz.ntmps147 (fun base=>?_)
 by_cases h:size<1∨8<size
 ·have hdec:(decide (size<1)||decide (8<size))=true:=by simpa using h
  refine' zc hdec
  rw [takeS,if_pos h]
 ·have hdec:(decide (size<1)||decide (8<size))=false:=by simpa using h
  obtain ⟨z,rfl,hz8⟩:∃z:Nat,size=(z:Int)∧z≤8:=⟨size.toNat,U,U⟩
  refine' zc (zj hdec natC)
  ·have hc:(s.length:Int)<z:=by simpa using hc
   simp only [takeS,if_neg h,if_pos hc]
  ·have hc:¬(s.length:Int)<z:=by simpa using hc
   omega
  ·rw [zcg]
  have hc:¬(s.length:Int)<z:=ak
  have hlz:(s.take z).length=z:=ax
  simp only [hlz]
  refine zk (fun q: { i:Nat // i≤z } =>⟨[(0,true,.d (.str s)),(1,true,.d (.int .i64 z)),(7,true,.d (.int .u64 (takeN (s.take q.1)))),(25,true,.osl 0 1 z 0 z),(26,true,.d (.int .i64 z)),(27,true,.d (.int .i64 q.1))],[(0,.arr 1 (ze (s.take z)))],some []⟩) (fun q=>z - q.1) ⟨0,Nat.zero_le _⟩ le1 (fun q=>?_)
  obtain ⟨i,hi⟩:=q
  simp only at hi ⊢
  rcases Nat.lt_or_ge i z with hlt|hge
  ·have hcmp:decide ((i:Int)<(z:Int))=true:=decide_eq_true U
   have hwi:=zn (i:=i) U
   obtain ⟨c,hq⟩:=zaH (l:=s) (i:=i) U
   have hgd:(ze (s.take z)).getD i []= [.int .u8 c.toNat]:=by
    rw [zhs (by rw [hlz];omega),List.getD_eq_getElem?_getD,List.getElem?_take,if_pos hlt,hq];rfl
   have hst:=zqG hq U
   have hb0:(ze (s.take z)).length=z:=by rw [zcg,hlz]
   refine' zc (zE hcmp hgd hb0 natC)
   exact ⟨⟨i+1,U⟩,dP,af⟩
  ·have hcmp:decide ((i:Int)<(z:Int))=false:=decide_eq_false U
   refine' zc (zj hcmp natC)
   have:i=z:=U
   subst this
   simp only [takeS,if_neg h,if_neg hc,Int.toNat_natCast]
@[go_sem] noncomputable def zbN:Ent Tryz.prog 147:= .m2 strT (intT .i64) zxF
open Go Go.Proofs
def zel (z i:Nat):List AV:= [.d (.int .i64 ((z:Int) - 1 - i)),.any]
def zbI (z:Nat):List (List AV):=(List.range z).map (zel z)
def putB (m z i:Nat):Txt:=List.replicate (z - i) 0++putN m i
def putH (m z i:Nat):AHeap:= [(3,.var [.osl 1 1 z 0 z]),(2,.var [.osl 1 1 z 0 z]),(1,.arr 1 (ze (putB m z i))),(0,.var [.d (.int .u64 ((m / 256 ^ i:Nat):Int))])]
def putF (m z i:Nat):AS:=⟨[(1,true,.vp 3 0)],putH m z i,some []⟩
theorem zgg {m z i:Nat} (h:i≤z):(putB m z i).length=z:=by
 rw [putB,List.length_append,List.length_replicate,zu];omega
theorem zkM (z:Nat):(zbI z).length=z:=by simp [zbI]
theorem zs4 {z i:Nat} (h:i<z):(zbI z)[i]?=some (zel z i):=by simp [zbI,h]
theorem zmi {z i:Nat} (h:i<z):(zbI z).take i++ [zel z i]=(zbI z).take (i+1):=by
 rw [zcz (zs4 h)]
theorem zs5 {m z:Nat} (hz:z≤8) (y:Yo Tryz.prog (zbI z)) (v0:Value)
  (hS:∀g M N A w,y.G g M N A w→∃F,∃i,i≤z∧SatH F (putH m z i) w∧Rep w F (putH m z i) (.vp 3 0) v0) {E:Env} {w:World} (hs:SatH E [] w) (hG:y.G (some []) E.M E.N (Own E []) w):
  Calls Tryz.prog 343 (#[]++ #[Value.func (.yield y.yl) #[] #[]]++ #[v0]) w (fun e w'=>∃v E' h' g,e= .returned v∧((∀xs,g=some xs→xs=zbI z)∧h'= [])∧SatH E' h' w'∧Evo 100 E [] w E' h' w'∧y.G g E'.M E'.N (Own E' h') w'):=by
 refine zh8 (rq:=false) (fl:=100) (pre:= []) (caps:= [.raw v0]) (h:= []) (K:=fun g h'=>(∀xs,g=some xs→xs=zbI z)∧h'= []) Tryz.func343 rfl Tryz.ntmps343 rfl aa y (fun base=>?_) hs bO (by simp [Reps,Rep]) hG
 have hS':∀t:List (Nat×(Bool×AV)),lk t 1=some (true,.raw v0)→∀g M N A w,y.G g M N A w→∃F,∃b: { i:Nat // i≤z },SatH F (putF m z b.1).h w∧∀k g v,lk (putF m z b.1).t k=some (g,v)→g=true∧∃u,lk t k=some (true,.raw u)∧Rep w F (putF m z b.1).h v u:=by
  intro t ht g M N A w hg
  obtain ⟨F,i,hi,h1,h2⟩:=hS g M N A w hg
  refine ⟨F,⟨i,hi⟩,h1,?_⟩
  intro k g v hk
  simp only [putF,lk] at hk
  split at hk
  ·rename_i e
   subst e
   simp only [Option.some.injEq,Prod.mk.injEq] at hk
   obtain ⟨rfl,rfl⟩:=hk
   exact ⟨rfl,v0,ht,h2⟩
  ·cases hk
 have hw0:IntKind.i64.wrap ((z:Int) - 1)=(z:Int) - 1:=zi U U
 simp only [List.nil_append,zaG]
 refine zfz noTab (zb _) _ _ (List.take_append_drop 4 _).symm (fun b: { i:Nat // i≤z } =>putF m z b.1) (hS' _ rfl) (fun K hK b=>?_)
 simp only [go_sem,aeq,aeq.aeqF,simprocAttr,putF,putH]
 refine ⟨by rw [zcg,zgg b.2],hK _ ?_⟩
 clear hK K b
 refine zcl ?_
 refine zk (fun q: { j:Nat // j≤z } =>⟨[(0,true,.fn (.yield y.yl) [] []),(1,true,.raw v0),(3,true,.d (.int .i64 ((z:Int) - 1 - q.1)))],[],some ((zbI z).take q.1)⟩) (fun q=>z - q.1) ⟨0,Nat.zero_le _⟩ (by simp only [AS.le,leT,leH,zf,AsgK,AV.le,AV.leL,AObj.le,inH,idsT,idsH,AV.ids,AV.idsL,AV.idsR,AObj.ids,lk,hget,go_sem,aeq,aeq.aeqF,simprocAttr,hw0]<;>simp) (fun q=>?_)
 obtain ⟨j,hj⟩:=q
 simp only at hj ⊢
 rcases Nat.lt_or_ge j z with hlt|hge
 ·have hcmp:decide ((0:Int)≤(z:Int) - 1 - j)=true:=decide_eq_true U
  have hwj:IntKind.i64.wrap ((z:Int) - 1 - j - 1)=(z:Int) - 1 - (j+1:Nat):=aE
  have hp:((zbI z).take j++ [zel z j])<+:zbI z:=by rw [zmi hlt];exact List.take_prefix _ _
  have hpt:=zmi hlt
  simp only [zel] at hp hpt
  refine' zxA (zN 3) hcmp
  refine zfz noTab (zb _) _ _ (List.take_append_drop 6 _).symm (fun b: { i:Nat // i≤z } =>putF m z b.1) (hS' _ rfl) (fun K hK b=>?_)
  have h3:((z:Int) - 1 - j).toNat<z:=U
  have hbl:(ze (putB m z b.1)).length=z:=by rw [zcg,zgg b.2]
  simp only [go_sem,aeq,aeq.aeqF,simprocAttr,putF,putH,hbl]
  refine ⟨⟨U,U⟩,h3,hp,?_,?_⟩
  ·refine hK _ ?_
   clear hK K
   refine' zgc fx
   exact ⟨⟨j+1,U⟩,by simp only [AS.le,leT,leH,zf,AsgK,AV.le,AV.leL,AObj.le,inH,idsT,idsH,AV.ids,AV.idsL,AV.idsR,AObj.ids,lk,hget,go_sem,aeq,aeq.aeqF,simprocAttr,hwj,hpt],af⟩
  ·refine hK _ ?_
   clear hK K
   refine' zgc fx
 ·have hcmp:decide ((0:Int)≤(z:Int) - 1 - j)=false:=decide_eq_false U
  refine' zgc hcmp
  rintro xs rfl
  exact List.take_of_length_le (by rw [zkM];omega)
theorem zmj (m z:Nat):putH m z 0= [(3,.var [.osl 1 1 z 0 z]),(2,.var [.osl 1 1 z 0 z]),(1,.arr 1 (List.replicate z [D.int .u8 0])),(0,.var [.d (.int .u64 (m:Int))])]:=by
 rw [putH,putB,zcB];simp [putN]
theorem zvF (m z:Nat):ACall Tryz.prog 282 3 [.osl 1 1 z 0 z] [(2,.var [.osl 1 1 z 0 z]),(1,.arr 1 (List.replicate z [D.int .u8 0])),(0,.var [.d (.int .u64 (m:Int))])] (fun r h'=>r= .fn (.func 343) [] [.vp 3 0]∧h'=putH m z 0):=by
 refine bod Tryz.func282 Tryz.ntmps282 (fun base=>?_)
 refine' zc fx
 rw [zmj]
theorem zyK (n:Int) (size:Int) (h0:0≤n) (h1:n<18446744073709551616):ACall Tryz.prog 219 0 [.d (.int .u64 n),.d (.int .i64 size)] [] (fun r _=>r= .d (.str (putS8 n size))):=by
 refine fbod Tryz.func219 Tryz.ntmps219 (fun base=>?_)
 by_cases h:size<1∨8<size
 ·have hdec:(decide (size<1)||decide (8<size))=true:=by simpa using h
  refine' zaS hdec
  rw [putS8,if_pos h]
 ·have hdec:(decide (size<1)||decide (8<size))=false:=by simpa using h
  obtain ⟨z,rfl,hz8⟩:∃z:Nat,size=(z:Int)∧z≤8:=⟨size.toNat,U,U⟩
  refine' zaS (zj hdec natC)
  obtain ⟨m,rfl⟩:∃m:Nat,n=m:=⟨n.toNat,U⟩
  refine ((zvF m z).whole (zbK rfl) (Nat.zero_le _) (by rintro r h' ⟨_,rfl⟩ i hi;rw [zmj];simp only [hget] at hi ⊢;repeat' split<;>simp_all)).mono ?_
  rintro r h' ⟨rfl,rfl⟩
  refine hK _ ?_
  clear hK K
  refine zcl ?_
  rw [zmj]
  refine aw_le ⟨[(16,true,.fn (.func 343) [] [.vp 3 0]),(5,true,.vp 2 0),(2,true,.vp 0 0)],[(3,.var [.osl 1 1 z 0 z]),(2,.var [.osl 1 1 z 0 z]),(1,.arr 1 (List.replicate z [D.int .u8 0])),(0,.var [.d (.int .u64 (m:Int))])],some []⟩ le0 ?_
  obtain ⟨I,hI⟩:∃I:List (List AV)→AHeap×Option (List (List AV)),I=fun xs=>(putH m z (min xs.length z),some []):=⟨_,rfl⟩
  refine zqJ (q:=3) (items:=zbI z) 100 I rfl rfl (zdp Tryz.func343 ad rfl) ?_ ?_ bM ?_ ?_ ?_ ?_ ?_ ?_ ?_ ?_ ?_
  ·intro y v0 hy E w hs hG
   refine zs5 (m:=m) hz8 y v0 (fun g M N A w hg=>?_) hs hG
   obtain ⟨F,xs,q1,q2⟩:=hy g M N A w hg
   rw [hI] at q1 q2
   exact ⟨F,_,Nat.min_le_right _ _,q1,q2⟩
  ·exact zbK rfl
  ·exact ⟨_,rfl⟩
  ·intro xs
   rw [hI]
   exact ⟨_,rfl⟩
  ·rw [hI]
   simp only [List.length_nil,Nat.zero_min,zmj]
   simp only [AS.le,leT,leH,zf,AsgK,AV.le,AV.leL,AObj.le,inH,idsT,idsH,AV.ids,AV.idsL,AV.idsR,AObj.ids,lk,hget,go_sem,aeq,aeq.aeqF,simprocAttr]
  ·rw [hI]
   simp only [List.length_nil,Nat.zero_min,zmj]
   simp only [AS.le,leT,leH,zf,AsgK,AV.le,AV.leL,AObj.le,inH,idsT,idsH,AV.ids,AV.idsL,AV.idsR,AObj.ids,lk,hget,go_sem,aeq,aeq.aeqF,simprocAttr]
  ·rw [hI]
  ·intro x hx
   obtain ⟨i,_,rfl⟩:=List.mem_map.1 hx
   rfl
  ·intro t ht
   simp at ht
   rcases ht with rfl|rfl<;>simp [cxOf]
  ·intro xs x hpre l1 r1
   have hlt:xs.length<z:=by
    have:=hpre.length_le
    rw [List.length_append,zkM] at this
    simp only [List.length_singleton] at this
    omega
   have hx:x=zel z xs.length:=by
    obtain ⟨r,hr⟩:=hpre
    have:=congrArg (fun l=>l[xs.length]?) hr
    simp only [zs4 hlt] at this
    simpa using this
   subst hx
   have hmin:min xs.length z=xs.length:=U
   have hmin':min (xs.length+1) z=xs.length+1:=U
   rw [hI]
   simp only [hmin,List.length_append,List.length_singleton,hmin',zel]
   generalize xs.length=i at hlt
   clear hmin hmin' hpre hI
   have hbl:(ze (putB m z i)).length=z:=by rw [zcg,zgg U]
   have hto:((z:Int) - 1 - i).toNat=z - 1 - i:=U
   have hlt2:decide ((z:Int) - 1 - i<z)=true:=decide_eq_true U
   have hle2:decide (0≤(z:Int) - 1 - i)=true:=decide_eq_true U
   have hby:IntKind.u8.wrap ((m / 256 ^ i:Nat):Int)=((UInt8.ofNat (m / 256 ^ i)).toNat:Int):=u8_of _
   have hsh:ishr .u64 ((m / 256 ^ i:Nat):Int) 8=((m / 256 ^ (i+1):Nat):Int):=by
    rw [show (8:Int)=((8:Nat):Int) from rfl,zw5 _ _ U,Nat.div_div_eq_div_mul,Nat.pow_succ 256 i]
   have hset:(ze (putB m z i)).set (z - 1 - i) (((ze (putB m z i)).getD (z - 1 - i) []).set 0 (D.int .u8 (IntKind.u8.wrap ((m / 256 ^ i:Nat):Int))))=ze (putB m z (i+1)):=by
    rw [zl9 (by rw [zgg U];omega) _ hby]
    congr 1
    have e1:z - i=(z - 1 - i)+1:=U
    have e2:z - (i+1)=z - 1 - i:=U
    rw [putB,putB,e1,e2,zma,List.replicate_succ',List.append_assoc,List.set_append,if_neg aa]
    simp
   refine aw_le ⟨[(17,true,.d (.int .i64 ((z:Int) - 1 - i))),(5,true,.vp 2 0),(2,true,.vp 0 0)],[(3,.var [.osl 1 1 z 0 z]),(2,.var [.osl 1 1 z 0 z]),(1,.arr 1 (ze (putB m z i))),(0,.var [.d (.int .u64 ((m / 256 ^ i:Nat):Int))])],some []⟩ (by rw [putH];simp only [AS.le,leT,leH,zf,AsgK,AV.le,AV.leL,AObj.le,inH,idsT,idsH,AV.ids,AV.idsL,AV.idsR,AObj.ids,lk,hget,go_sem,aeq,aeq.aeqF,simprocAttr]) ?_
   (have tk:=zb Tryz.prog);repeat' (first|((first|(refine sa ?_;intro K hK)|refine sb ?_);simp only [go_sem,aeq,aeq.aeqF,simprocAttr,hbl,hto,hset,hsh,Tryz.results219])|refine zbm (fun K hK=>?_)|refine sc ?_|refine zb3 rfl (fun hc=>?_) (fun hc=>?_)|(refine hK _ ?_;clear hK K)|((first|refine (show AS.le _ _ from ?_)|refine (show leH _ _ from ?_)|refine (show inH _ _ from ?_));simp only [AS.le,leT,leH,zf,AsgK,AV.le,AV.leL,AObj.le,inH,idsT,idsH,AV.ids,AV.idsL,AV.idsR,AObj.ids,lk,hget,go_sem,aeq,aeq.aeqF,simprocAttr,hbl,hto,hset,hsh])|refine fun (r2:Rnd _)=>?_|with_reducible refine And.intro ?_ ?_|exact ‹_<+:_› |omega|assumption|refine fun (hg:(_:Bool)=(_:Bool))=>?_|clear hK K)
   ·rw [putH];simp only [AS.le,leT,leH,zf,AsgK,AV.le,AV.leL,AObj.le,inH,idsT,idsH,AV.ids,AV.idsL,AV.idsR,AObj.ids,lk,hget,go_sem,aeq,aeq.aeqF,simprocAttr]
   ·rw [putH];simp only [AS.le,leT,leH,zf,AsgK,AV.le,AV.leL,AObj.le,inH,idsT,idsH,AV.ids,AV.idsL,AV.idsR,AObj.ids,lk,hget,go_sem,aeq,aeq.aeqF,simprocAttr]
  ·have hmin:min (zbI z).length z=z:=by rw [zkM];omega
   rw [hI]
   simp only [hmin]
   have hbl:(ze (putB m z z)).length=z:=by rw [zcg,zgg U]
   have hput:putB m z z=putN m z:=by rw [putB,Nat.sub_self];rfl
   have hbl2:(z=(ze (putB m z z)).length)=True:=eq_true hbl.symm
   have hbl3:List.take z (ze (putB m z z))=ze (putB m z z):=List.take_of_length_le U
   (have tk:=zb Tryz.prog);repeat' (first|((first|(refine sa ?_;intro K hK)|refine sb ?_);simp only [go_sem,aeq,aeq.aeqF,simprocAttr,putH,hbl,Tryz.results219])|refine zbm (fun K hK=>?_)|refine sc ?_|refine zb3 rfl (fun hc=>?_) (fun hc=>?_)|(refine hK _ ?_;clear hK K)|((first|refine (show AS.le _ _ from ?_)|refine (show leH _ _ from ?_)|refine (show inH _ _ from ?_));simp only [AS.le,leT,leH,zf,AsgK,AV.le,AV.leL,AObj.le,inH,idsT,idsH,AV.ids,AV.idsL,AV.idsR,AObj.ids,lk,hget,go_sem,aeq,aeq.aeqF,simprocAttr,putH,hbl])|refine fun (r2:Rnd _)=>?_|with_reducible refine And.intro ?_ ?_|exact ‹_<+:_› |omega|assumption|refine fun (hg:(_:Bool)=(_:Bool))=>?_|clear hK K)
   ·rw [hbl3];exact zaD _
   ·have hn:(z:Int) - 1=z - 1:=rfl
    rw [hbl3,z8,hput,putS8,if_neg h]
    rfl
@[go_sem] noncomputable def za0:Ent Tryz.prog 219:= .ofL (consL (intT .u64) (consL (intT .i64) nilL)) (fun (n,size,_)=>(0≤n)∧(n<18446744073709551616)) (fun (n,size,_)=> .d (.str (putS8 n size))) (fun (n,size,_) hp=>⟨rfl,zyK n size hp.1 hp.2⟩)
end Go.Aw
