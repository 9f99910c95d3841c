/-
 Numbers and names as bytes: the program's functions.
-/
import Derived.Test.YtgkjmbopnaeanaaGreatPart14
set_option maxRecDepth 100000
set_option maxHeartbeats 2000000
set_option linter.unusedSimpArgs false
set_option linter.unusedVariables false
namespace Go.Aw
open Go Go.Proofs
theorem zrT (n:Int) (h0:0≤n) (h1:n≤140737488355328):ACall Tryz.prog 121 0 [.d (.str [0]),.d (.int .i64 n)] [] (fun r _=>r= .d (.str (List.replicate n.toNat 0))):=by
 obtain ⟨m,rfl⟩:∃m:Nat,n=m:=⟨n.toNat,by omega⟩
 exact ztS m (by omega)
@[go_sem] noncomputable def zah:Ent Tryz.prog 121:= .ofL (consL (zjt (.d (.str [0]))) (consL (intT .i64) nilL)) (fun (_,n,_)=>(0≤n)∧(n≤140737488355328)) (fun (_,n,_)=> .d (.str (List.replicate n.toNat 0))) (fun (_,n,_) hp=>⟨rfl,zrT n hp.1 hp.2⟩)
theorem zxu (s:Txt) (n:Int) (hs:s.length≤9223372036854775807):AC 182 [.d (.str s),.d (.int .i64 n)] (.tup [.d (.str (padS s n).1),.d (.int .i64 (padS s n).2)]):=by
 refine bod Tryz.func182 Tryz.ntmps182 (fun base=>?_)
 by_cases h:n<s.length∨65536<n
 ·have hdec:(decide (n<(s.length:Int))||decide (65536<n))=true:=by simpa using h
  refine' zc hdec
  rw [padS,if_pos h]
 ·have hdec:(decide (n<(s.length:Int))||decide (65536<n))=false:=by simpa using h
  have hm:IntKind.i64.wrap (n - s.length)=n - s.length:=ze (by omega) (by omega)
  refine' walkW (zk hdec hm) (za zah <| zb _)
  ·rw [List.length_replicate];omega
  ·simp only [padS,if_neg h]
@[go_sem] noncomputable def zhD:Ent Tryz.prog 182:= .m2 strT (intT .i64) zxu
theorem zwf (s:Txt) (at_:Int) (t:Txt) (hp:s.length≤9223372036854775807∧t.length≤9223372036854775807):AC 191 [.d (.str s),.d (.int .i64 at_),.d (.str t)] (.tup [.d (.str (overS s at_ t).1),.d (.int .i64 (overS s at_ t).2)]):=by
 obtain ⟨hs,ht⟩:=hp
 refine bod Tryz.func191 Tryz.ntmps191 (fun base=>?_)
 have hm:IntKind.i64.wrap ((s.length:Int) - t.length)=(s.length:Int) - t.length:=ze (by omega) (by omega)
 by_cases h:at_<0∨(s.length:Int) - t.length<at_
 ·have hdec:(decide (at_<0)||decide ((s.length:Int) - t.length<at_))=true:=by simpa using h
  refine' zc (zk hm hdec)
  rw [overS,if_pos h]
 ·have hdec:(decide (at_<0)||decide ((s.length:Int) - t.length<at_))=false:=by simpa using h
  have hm2:IntKind.i64.wrap (at_+t.length)=at_+t.length:=ze (by omega) (by omega)
  refine' zc (zr hm hdec hm2)
  ·rw [List.length_take];omega
  ·simp;omega
  ·simp only [overS,if_neg h]
@[go_sem] noncomputable def zam:Ent Tryz.prog 191:= .m3 strT (intT .i64) strT zwf
theorem zxv (k s:Nat) (hs:s≤64) (h:k*2 ^ s<18446744073709551616):ishl .u64 (k:Int) (s:Int)=((k*2 ^ s:Nat):Int):=by
 unfold ishl
 rw [show min ((s:Int).toNat) IntKind.u64.bits=s by show min ((s:Int).toNat) 64=s;omega,IntKind.wrap_u64]
 have:(k:Int)*2 ^ s=((k*2 ^ s:Nat):Int):=by norm_cast
 rw [this]
 omega
theorem zpX (a b:Nat) (ha:a<18446744073709551616) (hb:b<18446744073709551616):ibits .or .u64 (a:Int) (b:Int)=((a ||| b:Nat):Int):=by
 have hab:a ||| b<18446744073709551616:=Nat.or_lt_two_pow (n:=64) ha hb
 unfold ibits
 simp only [show IntKind.u64.bits=64 from rfl,BitVec.ofInt_natCast,BitVec.toNat_or,BitVec.toNat_ofNat]
 rw [Nat.mod_eq_of_lt (by omega),Nat.mod_eq_of_lt (by omega),IntKind.wrap_u64]
 omega
theorem zpY {l:Txt} {i:Nat} {c:UInt8} (hq:l[i]?=some c) (hi:i<8):ibits .or .u64 (ishl .u64 ((takeN (l.take i):Nat):Int) 8) (IntKind.u64.wrap (c.toNat:Int))=((takeN (l.take (i+1)):Nat):Int):=by
 have h1:takeN (l.take i)<256 ^ 7:=zd6 (by rw [List.length_take];omega)
 have h2:=c.toNat_lt
 rw [zT (x:=(c.toNat:Int)) (by omega) (by omega),show (8:Int)=((8:Nat):Int) from rfl,zxv _ _ (by omega) (by omega),zpX _ _ (by omega) (by omega),zcz hq,zgP,← Nat.shiftLeft_eq,← Nat.shiftLeft_add_eq_or_of_lt (i:=8) (by omega),Nat.shiftLeft_eq]
theorem zwg (s:Txt) (size:Int) (hs:s.length≤9223372036854775807):AC 181 [.d (.str s),.d (.int .i64 size)] (.tup [.d (.int .u64 (takeS s size).1),.d (.str (takeS s size).2.1),.d (.int .i64 (takeS s size).2.2)]):=by
 refine fbod Tryz.func181 Tryz.ntmps181 (fun base=>?_)
 by_cases h:size<1∨8<size
 ·have hdec:(decide (size<1)||decide (8<size))=true:=by simpa using h
  refine' zc hdec
  rw [takeS,if_pos h]
 ·have hdec:(decide (size<1)||decide (8<size))=false:=by simpa using h
  obtain ⟨z,rfl,hz8⟩:∃z:Nat,size=(z:Int)∧z≤8:=⟨size.toNat,by omega,by omega⟩
  refine' zc (zk hdec natC)
  ·have hc:(s.length:Int)<z:=by simpa using hc
   simp only [takeS,if_neg h,if_pos hc]
  ·have hc:¬(s.length:Int)<z:=by simpa using hc
   omega
  ·rw [zcp]
  have hc:¬(s.length:Int)<z:=by simpa using hc
  have hlz:(s.take z).length=z:=by rw [List.length_take];omega
  simp only [hlz]
  refine zo (fun q: { i:Nat // i≤z } =>⟨[(0,true,.d (.str s)),(1,true,.d (.int .i64 z)),(7,true,.d (.int .u64 (takeN (s.take q.1)))),(25,true,.osl 0 1 z 0 z),(26,true,.d (.int .i64 z)),(27,true,.d (.int .i64 q.1))],[(0,.arr 1 (zi (s.take z)))],some []⟩) (fun q=>z - q.1) ⟨0,Nat.zero_le _⟩ le1 (fun q=>?_)
  obtain ⟨i,hi⟩:=q
  simp only at hi ⊢
  rcases Nat.lt_or_ge i z with hlt|hge
  ·have hcmp:decide ((i:Int)<(z:Int))=true:=decide_eq_true (by omega)
   have hwi:=zn (i:=i) (by omega)
   obtain ⟨c,hq⟩:=zai (l:=s) (i:=i) (by omega)
   have hgd:(zi (s.take z)).getD i []= [.int .u8 c.toNat]:=by
    rw [zhi (by rw [hlz];omega),List.getD_eq_getElem?_getD,List.getElem?_take,if_pos hlt,hq];rfl
   have hst:=zpY hq (by omega)
   have hb0:(zi (s.take z)).length=z:=by rw [zcp,hlz]
   refine' zc (zS hcmp hgd hb0 natC)
   exact ⟨⟨i+1,by omega⟩,by simp only [AS.le,leT,leH,zf,AsgK,AV.le,AV.leL,AObj.le,inH,idsT,idsH,AV.ids,AV.idsL,AV.idsR,AObj.ids,lk,hget,go_sem,aeq,aeq.aeqF,simprocAttr,hwi,hst],by simp;omega⟩
  ·have hcmp:decide ((i:Int)<(z:Int))=false:=decide_eq_false (by omega)
   refine' zc (zk hcmp natC)
   have:i=z:=by omega
   subst this
   simp only [takeS,if_neg h,if_neg hc,Int.toNat_natCast]
@[go_sem] noncomputable def zca:Ent Tryz.prog 181:= .m2 strT (intT .i64) zwg
end Go.Aw
