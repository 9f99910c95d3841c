/-
 Parts of the proof: lemmas.
-/
import Derived.Test.YtgldbfelccddbaaGreatBeg12
set_option maxRecDepth 100000
set_option maxHeartbeats 2000000
set_option linter.unusedSimpArgs false
set_option linter.unusedVariables false
namespace Go.Aw
open Go Go.Proofs
theorem zl8 (s:Txt) (i k:Nat) (hs:s.length≤9223372036854775807) (h:i+k≤s.length) (h1:1≤k) (h8:k≤8):ACall Tryz.prog 245 0 [.d (.str s),.d (.int .i64 i),.d (.int .i64 k)] [] (fun r _=>r= .d (.int .u64 (numAt s i k))):=by
 have hT:takeS (s.drop i) k=(((numAt s i k:Nat):Int),(s.drop i).drop k,0):=by
  rw [takeS,if_neg (by omega),if_neg (by rw [List.length_drop];omega)]
  rfl
 refine fbod Tryz.func245 Tryz.ntmps245 (fun base=>?_)
 refine' walkW hT (zb zab <| za _)
 rw [List.length_drop];omega
theorem zkx (s:Txt) (i k:Int) (hp:s.length≤9223372036854775807∧0≤i∧i+k≤s.length∧1≤k∧k≤8):AC 245 [.d (.str s),.d (.int .i64 i),.d (.int .i64 k)] (.d (.int .u64 (numAt s i.toNat k.toNat))):=by
 obtain ⟨hs,h0,h,h1,h8⟩:=hp
 have:=zl8 s i.toNat k.toNat hs (by omega) (by omega) (by omega)
 rw [Int.toNat_of_nonneg h0,Int.toNat_of_nonneg (by omega)] at this
 exact this
@[go_sem] noncomputable def zcc:Ent Tryz.prog 245:= .m3 strT (intT .i64) (intT .i64) zkx
theorem zhy (s:Txt):s.take (min 4 s.length)=s.take 4:=by
 rcases Nat.le_total 4 s.length with h|h
 ·rw [Nat.min_eq_left h]
 ·rw [Nat.min_eq_right h,List.take_length,List.take_of_length_le h]
theorem znZ (s:Txt):reqHd.take (min 4 s.length)=reqHd.take s.length:=by
 rcases Nat.le_total 4 s.length with h|h
 ·rw [Nat.min_eq_left h,List.take_of_length_le (l:=reqHd) h];rfl
 ·rw [Nat.min_eq_right h]
theorem zky (s:Txt) (hs:s.length≤9223372036854775807):AC 178 [.d (.str s)] (.tup [rqA (reqRd s).1,.d (.str (reqRd s).2.1),.d (.int .i64 (reqRd s).2.2)]):=by
 obtain ⟨V,hV⟩:∃V,V=reqRd s:=⟨_,rfl⟩
 rw [← hV]
 obtain ⟨n,hn⟩:∃n,n=min 4 s.length:=⟨_,rfl⟩
 have hmn:imin (s.length:Int) 4=(n:Int):=by unfold imin;split<;>omega
 have e1:s.take n=s.take 4:=by rw [hn,zhy]
 have e2:([37,96,149,19]:Txt).take n=reqHd.take s.length:=by rw [hn];exact znZ s
 by_cases hh:s.take 4=reqHd.take s.length
 ·have hc:(s.take 4 !=reqHd.take s.length)=false:=by simpa using hh
  rw [reqRd,if_neg (fun e=>e hh)] at hV
  by_cases h28:s.length<28
  ·rw [if_pos h28] at hV
   have h28b:decide ((s.length:Int)<28)=true:=decide_eq_true (by omega)
   refine fbod Tryz.func178 Tryz.ntmps178 (fun base=>?_)
   refine' walkW (zA hmn e1 e2 hc @natC h28b) (zb zcc <| za _)
   rw [hV]
   rfl
  ·rw [if_neg h28] at hV
   have h28b:decide ((s.length:Int)<28)=false:=decide_eq_false (by omega)
   have hw:∀i k:Nat,k≤4→IntKind.i64.wrap (numAt s i k:Int)=numAt s i k:=fun i k hk=>by
    have h1:=z8 s i k
    have h2:256 ^ k≤256 ^ 4:=Nat.pow_le_pow_right (by decide) hk
    exact zf (by omega) (by omega)
   have hw1:=hw 4 2 (by decide)
   have hw2:=hw 6 2 (by decide)
   have hw3:=hw 24 4 (by decide)
   have hw4:IntKind.u32.wrap (numAt s 24 4:Int)=numAt s 24 4:=by
    have:=z8 s 24 4
    exact zcq (by omega) (by omega)
   obtain ⟨D,hD⟩:∃D,D=s.drop 28:=⟨_,rfl⟩
   have hDl:D.length+28=s.length:=by rw [hD,List.length_drop];omega
   obtain ⟨N,hN⟩:∃N,N=numAt s 24 4:=⟨_,rfl⟩
   refine fbod Tryz.func178 Tryz.ntmps178 (fun base=>?_)
   refine' walkW (zA hmn e1 e2 hc @natC (zA h28b hw1 hw2 hw3 hw4 hD.symm)) (zb zcc <| za _)
   ·have h6:numAt s 6 2≠1:=by
     have:=bne_iff_ne.mp hc
     omega
    rw [hV,if_pos h6,hD]
    rfl
   all_goals
    rename_i hc6
    have h6:¬numAt s 6 2≠1:=by
     have:=bne_eq_false_iff_eq.mp (by assumption:((numAt s 6 2:Int) !=1)=false)
     omega
    rw [if_neg h6] at hV
   ·rw [hV,if_pos (by have:=of_decide_eq_true hc;omega)]
    rfl
   ·have h46:=of_decide_eq_false (by assumption:decide (4096<(numAt s 24 4:Int))=false)
    rw [hV,if_neg (by omega),if_pos (by have:=of_decide_eq_true hc;omega)]
    rfl
   ·have:=of_decide_eq_false hc
    omega
   ·have:=of_decide_eq_false hc
    omega
   ·have h46:=of_decide_eq_false (by assumption:decide (4096<(numAt s 24 4:Int))=false)
    have:=of_decide_eq_false hc
    rw [hV,if_neg (by omega),if_neg (by omega),hD,List.drop_drop]
    rfl
 ·have hc:(s.take 4 !=reqHd.take s.length)=true:=by simpa using hh
  rw [reqRd,if_pos hh] at hV
  refine fbod Tryz.func178 Tryz.ntmps178 (fun base=>?_)
  refine' walkW (zad hmn e1 e2 hc @natC) (zb zcc <| za _)
  rw [hV]
  rfl
@[go_sem] noncomputable def zhz:Ent Tryz.prog 178:= .m1 strT zky
open Go Go.Proofs
def rpBeg (s hd:Txt) (n:Nat):Int:=if s.take 4≠hd.take s.length then 14 else if s.length<n then 22 else 0
theorem zpp (s hd:Txt) (h:hd.length=4):hd.take (min 4 s.length)=hd.take s.length:=by
 rcases Nat.le_total 4 s.length with h'|h'
 ·rw [Nat.min_eq_left h',List.take_of_length_le (l:=hd) (by omega),List.take_of_length_le (by omega)]
 ·rw [Nat.min_eq_right h']
theorem zhA (s hd:Txt) (n:Nat) (hh:hd.length=4) (hs:s.length≤9223372036854775807):ACall Tryz.prog 216 0 [.d (.str s),.d (.str hd),.d (.int .i64 n)] [] (fun r _=>r= .d (.int .i64 (rpBeg s hd n))):=by
 obtain ⟨k,hk⟩:∃k,k=min 4 s.length:=⟨_,rfl⟩
 have hmn:imin (s.length:Int) 4=(k:Int):=by unfold imin;split<;>omega
 have e0:(hd.length:Int)=4:=by omega
 have e1:s.take k=s.take 4:=by rw [hk,zhy]
 have e2:hd.take k=hd.take s.length:=by rw [hk];exact zpp s hd hh
 obtain ⟨V,hV⟩:∃V,V=rpBeg s hd n:=⟨_,rfl⟩
 rw [← hV]
 unfold rpBeg at hV
 by_cases h:s.take 4=hd.take s.length
 ·have hc:(s.take 4 !=hd.take s.length)=false:=by simpa using h
  rw [if_neg (fun e=>e h)] at hV
  by_cases h2:s.length<n
  ·have hc2:decide ((s.length:Int)<(n:Int))=true:=decide_eq_true (by omega)
   rw [if_pos h2] at hV
   refine bod Tryz.func216 Tryz.ntmps216 (fun base=>?_)
   refine' zc (zA e0 hmn @natC e1 e2 (zu hc hc2))
   all_goals first|(rw [hV];done)|(rw [hV];rfl)|omega
  ·have hc2:decide ((s.length:Int)<(n:Int))=false:=decide_eq_false (by omega)
   rw [if_neg h2] at hV
   refine bod Tryz.func216 Tryz.ntmps216 (fun base=>?_)
   refine' zc (zA e0 hmn @natC e1 e2 (zu hc hc2))
   all_goals first|(rw [hV];done)|(rw [hV];rfl)|omega
 ·have hc:(s.take 4 !=hd.take s.length)=true:=by simpa using h
  rw [if_pos h] at hV
  refine bod Tryz.func216 Tryz.ntmps216 (fun base=>?_)
  refine' zc (zA e0 hmn @natC e1 e2 hc)
  all_goals first|(rw [hV];done)|(rw [hV];rfl)|omega
theorem ziC (s:Txt) (hs:s.length≤9223372036854775807):ACall Tryz.prog 216 0 [.d (.str s),.d (.str [102,142,51,239]),.d (.int .i64 20)] [] (fun r _=>r= .d (.int .i64 (rpBeg s zaS 20))):=by
 exact zhA s zaS 20 rfl hs
theorem ziD (s:Txt) (hs:s.length≤9223372036854775807):ACall Tryz.prog 216 0 [.d (.str s),.d (.str [103,68,102,152]),.d (.int .i64 16)] [] (fun r _=>r= .d (.int .i64 (rpBeg s zde 16))):=by
 exact zhA s zde 16 rfl hs
theorem zl9 (s:Txt) (i k:Nat) (hs:s.length≤9223372036854775807) (h:i+k≤s.length) (h1:1≤k) (h8:k≤8):ACall Tryz.prog 217 0 [.d (.str s),.d (.int .i64 i),.d (.int .i64 k)] [] (fun r _=>r= .d (.int .u64 (numAt s i k))):=by
 have hT:takeS (s.drop i) k=(((numAt s i k:Nat):Int),(s.drop i).drop k,0):=by
  rw [takeS,if_neg (by omega),if_neg (by rw [List.length_drop];omega)]
  rfl
 refine fbod Tryz.func217 Tryz.ntmps217 (fun base=>?_)
 refine' walkW hT (zb zab <| za _)
 rw [List.length_drop];omega
theorem zn0 (s:Txt) (i k:Int) (hs:s.length≤9223372036854775807) (h0:0≤i) (h:i+k≤s.length) (h1:1≤k) (h8:k≤8):ACall Tryz.prog 217 0 [.d (.str s),.d (.int .i64 i),.d (.int .i64 k)] [] (fun r _=>r= .d (.int .u64 (numAt s i.toNat k.toNat))):=by
 have:=zl9 s i.toNat k.toNat hs (by omega) (by omega) (by omega)
 rw [Int.toNat_of_nonneg h0,Int.toNat_of_nonneg (by omega)] at this
 exact this
@[go_sem] noncomputable def za5:Ent Tryz.prog 216:= .ofL (consL strT (consL (zac (.d (.str [102,142,51,239]))) (consL (zac (.d (.int .i64 20))) nilL))) (fun (s,_,_,_)=>s.length≤9223372036854775807) (fun (s,_,_,_)=> .d (.int .i64 (rpBeg s zaS 20))) (fun (s,_,_,_) hp=>⟨rfl,ziC s hp⟩)
@[go_sem] noncomputable def za6:Ent Tryz.prog 216:= .ofL (consL strT (consL (zac (.d (.str [103,68,102,152]))) (consL (zac (.d (.int .i64 16))) nilL))) (fun (s,_,_,_)=>s.length≤9223372036854775807) (fun (s,_,_,_)=> .d (.int .i64 (rpBeg s zde 16))) (fun (s,_,_,_) hp=>⟨rfl,ziD s hp⟩)
@[go_sem] noncomputable def zaB:Ent Tryz.prog 217:= .ofL (consL strT (consL (intT .i64) (consL (intT .i64) nilL))) (fun (s,i,k,_)=>(s.length≤9223372036854775807)∧(0≤i)∧(i+k≤s.length)∧(1≤k)∧(k≤8)) (fun (s,i,k,_)=> .d (.int .u64 (numAt s i.toNat k.toNat))) (fun (s,i,k,_) hp=>⟨rfl,zn0 s i k hp.1 hp.2.1 hp.2.2.1 hp.2.2.2.1 hp.2.2.2.2⟩)
theorem zbG {s hd:Txt} {n:Nat} (h:rpBeg s hd n=0):n≤s.length:=by
 unfold rpBeg at h
 split at h
 ·omega
 split at h
 ·omega
 ·omega
open Go Go.Proofs
def extR:Nat→Txt→List Ext
 |0,_=> []
 |n+1,s=>⟨numAt s 0 4,numAt s 4 4⟩::extR n (s.drop 8)
def extI (e:Ext):List AV:= [.agg [.d (.int .i64 e.len),.d (.int .i64 e.flags)]]
theorem zkJ (s:Txt):ACall Tryz.prog 283 50 [.d (.str s)] [] (fun r h'=>r= .fn (.func 344) [] [.vp 50 0]∧h'= [(50,.var [.d (.str s)])]):=by
 refine bod Tryz.func283 Tryz.ntmps283 (fun base=>?_)
 refine' zc fx
def rqR:Nat→Txt→List (Rq×Txt×Int)
 |0,_=> []
 |n+1,s=>if s= [] then [] else reqRd s::if (reqRd s).2.2≠0 then [] else rqR n (reqRd s).2.1
def rqI (r:Rq×Txt×Int):List AV:= [.agg [.d (.int .i64 r.1.flags),.d (.int .i64 r.1.kind),.d (.int .u64 r.1.cookie),.d (.int .u64 r.1.frm),.d (.int .u32 r.1.len),.d (.str r.1.data),.d (.str r.2.1)],.d (.int .i64 r.2.2)]
theorem zpF (s:Txt):ACall Tryz.prog 137 50 [.d (.str s)] [] (fun r h'=>r= .fn (.func 204) [] [.vp 50 0]∧h'= [(50,.var [.d (.str s)])]):=by
 refine bod Tryz.func137 Tryz.ntmps137 (fun base=>?_)
 refine' zc fx
theorem zeT {s:Txt} (h:(reqRd s).2.2=0):(reqRd s).2.1.length+28≤s.length:=by
 unfold reqRd at h ⊢
 split at h
 ·simp at h
 split at h
 ·simp at h
 split at h
 ·rw [if_neg (by assumption),if_neg (by assumption),if_pos (by assumption)]
  simp only [List.length_drop]
  omega
 split at h
 ·simp at h
 split at h
 ·simp at h
 rw [if_neg (by assumption),if_neg (by assumption),if_neg (by assumption),if_neg (by assumption),if_neg (by assumption)]
 simp only [List.length_drop]
 omega
theorem ziM (n:Nat) (s:Txt) (hn:s.length<n) (hs:s.length≤1000000):AIter Tryz.prog 204 100 [] [.vp 50 0] [(50,.var [.d (.str s)])] ((rqR n s).map rqI) (fun g h'=>(∀xs,g=some xs→xs=(rqR n s).map rqI)∧∃u,h'= [(50,.var [u])]):=by
 refine itr Tryz.func204 Tryz.ntmps204 (fun base y=>?_)
 refine' zbm fx
 refine zt (fun q: { q:Nat×Txt×List (List AV) // q.2.1.length<q.1∧q.2.1.length≤s.length∧q.2.2++(rqR q.1 q.2.1).map rqI=(rqR n s).map rqI } =>⟨[(0,true,.fn (.yield y.yl) [] []),(1,true,.vp 50 0)],[(50,.var [.d (.str q.1.2.1)])],some q.1.2.2⟩) (fun q=>q.1.1) ⟨(n,s,[]),hn,Nat.le_refl _,rfl⟩ le1 (fun q=>?_)
 obtain ⟨⟨k,z,xs⟩,hz,hk,hf⟩:=q
 simp only at hz hk hf ⊢
 cases k with
 |zero=>exact absurd hz (by omega)
 | succ k=>
  rw [rqR] at hf
  by_cases hz0:z= []
  ·subst hz0
   rw [if_pos rfl,List.map_nil,List.append_nil] at hf
   refine' zbm fx
   ·rintro zs rfl;exact hf
   ·exact ⟨_,rfl⟩
  ·have hc:(z != [])=true:=bne_iff_ne.2 hz0
   rw [if_neg hz0,List.map_cons] at hf
   obtain ⟨R,hR⟩:∃R,R=reqRd z:=⟨_,rfl⟩
   have hsh:R.2.2=0→R.2.1.length+28≤z.length:=by rw [hR];exact zeT
   rw [← hR] at hf
   have hpre:(xs++ [rqI R])<+:(rqR n s).map rqI:=by rw [← hf];simp
   simp only [rqI] at hpre
   have hzl:z.length≤9223372036854775807:=by omega
   refine' walkX (zu hc hR.symm) (zb zhz <| za _)
   ·rw [if_pos (by simpa using hc),List.map_nil] at hf
    rintro zs rfl
    exact hf
   ·exact ⟨_,rfl⟩
   ·have h0:R.2.2=0:=by simpa using hc
    have:=hsh h0
    rw [if_neg (fun e=>e h0)] at hf
    exact ⟨⟨(k,R.2.1,xs++ [rqI R]),by simp only;omega,by simp only;omega,by rw [← hf];simp⟩,by simp only [AS.le,leT,leH,zh,AsgK,AV.le,AV.leL,AObj.le,inH,idsT,idsH,AV.ids,AV.idsL,AV.idsR,AObj.ids,lk,hget,go_sem,aeq,aeq.aeqF,simprocAttr,rqI],by simp⟩
   ·exact ⟨_,rfl⟩
end Go.Aw
