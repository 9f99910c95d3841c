/-
 Parts of the proof: lemmas.
-/
import Derived.Test.YtgldbfelccddbaaGreatPart34
set_option maxRecDepth 100000
set_option maxHeartbeats 2000000
set_option linter.unusedSimpArgs false
set_option linter.unusedVariables false
namespace Go.Aw
open Go Go.Proofs
structure XpF (x:Xp):Prop where
 ok:XpOk x
 l:x.names.length≤1000
 n:∀t∈x.names,t.length≤1000
theorem xctxs {x:Xp} (h:XpF x):(ctxs x.names).length≤1001∧∀c∈ctxs x.names,c.length≤1018:=by
 refine ⟨by have:=h.l;simp [ctxs];omega,fun c hc=>?_⟩
 rcases List.mem_cons.mp hc with rfl|hc
 ·decide
 ·obtain ⟨m,hm,rfl⟩:=List.mem_map.mp hc
  have:=h.n m hm
  rw [List.length_append]
  show 18+m.length≤1018
  omega
theorem zwH (s:Txt) (hs:s.length≤1000000):(zbq s).2.1.length≤1000∧∀t∈(zbq s).2.1,t.length≤1000000:=by
 have hg:∀ (k:Nat) (l:List Txt) (r:Txt) (l2:List Txt) (r2:Txt),r.length≤1000000→(∀t∈l,t.length≤1000000)→zc7 k l r=some (l2,r2)→l2.length=l.length+k∧∀t∈l2,t.length≤1000000:=by
  intro k
  induction k with
  |zero=>intro l r l2 r2 _ hl h;cases h;exact ⟨rfl,hl⟩
  | succ k ih=>
   intro l r l2 r2 hr hl h
   rw [zc7] at h
   split at h
   ·cases h
   ·obtain ⟨a,b⟩:=ih _ _ _ _ (Nat.le_trans (zcU r) hr) (fun t ht=>by
     rcases List.mem_append.mp ht with h1|h1
     ·exact hl t h1
     ·rw [List.mem_singleton.mp h1]
      unfold toBeg
      split
      ·exact Nat.zero_le _
      split
      ·exact Nat.zero_le _
      ·simp only [List.length_take,List.length_drop];omega) h
    exact ⟨by rw [a,List.length_append,List.length_singleton];omega,b⟩
 unfold zbq
 split
 ·exact ⟨Nat.zero_le _,aa⟩
 ·rename_i h0
  split
  ·exact ⟨Nat.zero_le _,aa⟩
  ·rename_i l r hl
   split
   ·exact ⟨Nat.zero_le _,aa⟩
   ·obtain ⟨a,b⟩:=hg _ _ _ _ _ (by rw [List.length_drop];have:=zcU s;omega) aa hl
    exact ⟨by rw [a];simp only [List.length_nil];omega,b⟩
theorem zoU (n:Ng) (x:Xp) (k:Int) (d:Txt) (h:XpF x) (h0:0≤k) (h1:k≤4294967295) (hd:d.length≤1000000):ACall Tryz.prog 264 0 [ngA n,xpA x,.agg [.d (.int .u32 k),.d (.str d)]] [] (fun r _=>r= .tup [ngA (za5 n x k d).1,.d (.str (za5 n x k d).2)]):=by
 obtain ⟨V,hV⟩:∃V,V=za5 n x k d:=⟨_,rfl⟩
 rw [← hV]
 obtain ⟨M,hM⟩:∃M,M=zbq d:=⟨_,rfl⟩
 have hMl:=zwH d hd
 rw [← hM] at hMl
 have hcx:=xctxs h
 have hnl:x.names.length≤1000000:=Nat.le_trans h.l ae
 have hnn:∀t∈x.names,t.length≤1000000:=fun t ht=>Nat.le_trans (h.n t ht) ae
 unfold za5 at hV
 rw [← hM] at hV
 obtain ⟨C,hC⟩:∃C,C=ctxs x.names:=⟨_,rfl⟩
 rw [← hC] at hV hcx
 cases hk:(k==10) with
 | false=>
  have hk':¬k=10:=bJ
  have hkn:(k !=10)=true:=by simpa using hk'
  simp only [if_neg hk'] at hV
  refine fbod Tryz.func264 Tryz.ntmps264 (fun base=>?_)
  refine' walkW (zj hM.symm hk) (za zfG <| za zah <| za zS <| za zeI <| zb _)
  ·rw [if_pos ak] at hV
   rw [hV]
  ·rename_i hc1
   rw [if_neg aT,if_pos bb] at hV
   rw [hV]
  ·rename_i hc1 hc2
   rw [if_neg aT,if_neg cy,if_pos ak] at hV
   rw [hV]
  rename_i hc1 hc2
  rw [if_neg aT,if_neg cy,if_neg ak] at hV
  refine zaI 14 1 rfl ?_
  simp only [go_sem,aeq,aeq.aeqF,simprocAttr]
  rw [← hC]
  refine zk (fun q: { q:Nat×Txt×List Int // q.1≤C.length∧q.2.1.length≤4116*q.1∧q.2.2.length≤q.1∧zao k M.2.1 0 C [] []=zao k M.2.1 q.1 (C.drop q.1) q.2.1 q.2.2 } =>⟨[(3,true,.vp 0 0),(5,true,.vp 2 0),(6,true,.vp 3 0),(8,true,.d (.bool false)),(10,true,.d (.sl 1 (M.2.1.map strD))),(12,true,.d (.str q.1.2.1)),(13,true,.d (.sl 1 (C.map strD))),(14,true,.osl 4 1 q.1.2.2.length 0 q.1.2.2.length),(15,true,.d (.int .i64 q.1.1))],[(4,.arr 1 (q.1.2.2.map u32D)),(3,.var [.d (.int .i64 0),.d (.str []),.d (.bool false),.d (.bool false),.nils 1]),(2,.var [.d (.int .u32 k),.d (.str d)]),(0,.var [.d (.int .i64 n.phase),.d (.str n.buf),.d (.bool n.brief),.d (.bool n.chunks),.d (.sl 1 (n.metas.map u32D))])],some []⟩) (fun q=>C.length - q.1.1) ⟨(0,[],[]),Nat.zero_le _,Nat.zero_le _,Nat.zero_le _,rfl⟩ le1 (fun q=>?_)
  obtain ⟨⟨i,t,ids⟩,hi,ht,hids,hg⟩:=q
  simp only at hi ht hids hg ⊢
  have hll:(ids.map u32D).length=ids.length:=List.length_map ..
  rcases zy strD C i hi with ⟨m,hq,hlt,hcmp,hrow,hdr,htk⟩|⟨hend,hcmp⟩
  ·simp only [strD] at hrow
   have hmc:=hcx.2 m (List.mem_of_getElem? hq)
   have hwi:=zn (i:=i) U
   rw [hdr,zao] at hg
   cases hb:zda m M.2.1 (k !=10) with
   |true=>
    rw [if_pos hb] at hg
    rw [hkn] at hb
    have hwu:IntKind.u64.wrap ((i+1:Nat):Int)=((i+1:Nat):Int):=zA U U
    have hw3:IntKind.u32.wrap ((i+1:Nat):Int)=((i+1:Nat):Int):=zbT U U
    have hpl:=zcF ((i+1:Nat):Int)
    obtain ⟨X,hX⟩:∃X,X=sayS k 4 (putS8 ((i+1:Nat):Int) 4++m):=⟨_,rfl⟩
    have hXl:X.length≤4116:=cI
    rw [← hX] at hg
    refine' walkW (zo hcmp hrow hb hwi hwu (zq hw3 hX.symm hll)) (za zbX <| za zS <| za zt <| zb _)
    all_goals first|omega|exact hMl.2|skip
    exact ⟨⟨(i+1,t++X,ids++ [((i+1:Nat):Int)]),U,cp,cU,hg⟩,dG,af⟩
   |false=>
    rw [if_neg bH] at hg
    rw [hkn] at hb
    refine' walkW (zE hcmp hrow hb hwi) (za zbX <| za zS <| za zt <| zb _)
    all_goals first|omega|exact hMl.2|skip
    exact ⟨⟨(i+1,t,ids),U,cC,du,hg⟩,lev,af⟩
  ·subst hend
   rw [List.drop_length,zao] at hg
   rw [hg] at hV
   have hl1:=zby k 1 []
   refine' walkW (zj hcmp hll) (za zbX <| za zS <| za zt <| zb _)
   all_goals first|omega|skip
   rw [hV]
 | true=>
  have hk':k=10:=bJ
  have hkn:(k !=10)=false:=by rw [hk'];rfl
  simp only [if_pos hk'] at hV
  refine fbod Tryz.func264 Tryz.ntmps264 (fun base=>?_)
  refine' walkW (zj hM.symm hk) (za zfG <| za zah <| za zS <| za zeI <| zb _)
  ·rw [if_pos ak] at hV
   rw [hV];rfl
  ·rename_i hc1
   rw [if_neg aT,if_pos bb] at hV
   rw [hV];rfl
  ·rename_i hc1 hc2
   rw [if_neg aT,if_neg cy,if_pos ak] at hV
   rw [hV];rfl
  rename_i hc1 hc2
  rw [if_neg aT,if_neg cy,if_neg ak] at hV
  refine zaI 14 1 rfl ?_
  simp only [go_sem,aeq,aeq.aeqF,simprocAttr]
  rw [← hC]
  refine zk (fun q: { q:Nat×Txt×List Int // q.1≤C.length∧q.2.1.length≤4116*q.1∧q.2.2.length≤q.1∧zao k M.2.1 0 C [] []=zao k M.2.1 q.1 (C.drop q.1) q.2.1 q.2.2 } =>⟨[(3,true,.vp 0 0),(5,true,.vp 2 0),(6,true,.vp 3 0),(8,true,.d (.bool true)),(10,true,.d (.sl 1 (M.2.1.map strD))),(12,true,.d (.str q.1.2.1)),(13,true,.d (.sl 1 (C.map strD))),(14,true,.osl 4 1 q.1.2.2.length 0 q.1.2.2.length),(15,true,.d (.int .i64 q.1.1))],[(4,.arr 1 (q.1.2.2.map u32D)),(3,.var [.d (.int .i64 0),.d (.str []),.d (.bool false),.d (.bool false),.nils 1]),(2,.var [.d (.int .u32 k),.d (.str d)]),(0,.var [.d (.int .i64 n.phase),.d (.str n.buf),.d (.bool n.brief),.d (.bool n.chunks),.d (.sl 1 (([]:List Int).map u32D))])],some []⟩) (fun q=>C.length - q.1.1) ⟨(0,[],[]),Nat.zero_le _,Nat.zero_le _,Nat.zero_le _,rfl⟩ le1 (fun q=>?_)
  obtain ⟨⟨i,t,ids⟩,hi,ht,hids,hg⟩:=q
  simp only at hi ht hids hg ⊢
  have hll:(ids.map u32D).length=ids.length:=List.length_map ..
  rcases zy strD C i hi with ⟨m,hq,hlt,hcmp,hrow,hdr,htk⟩|⟨hend,hcmp⟩
  ·simp only [strD] at hrow
   have hmc:=hcx.2 m (List.mem_of_getElem? hq)
   have hwi:=zn (i:=i) U
   rw [hdr,zao] at hg
   cases hb:zda m M.2.1 (k !=10) with
   |true=>
    rw [if_pos hb] at hg
    rw [hkn] at hb
    have hwu:IntKind.u64.wrap ((i+1:Nat):Int)=((i+1:Nat):Int):=zA U U
    have hw3:IntKind.u32.wrap ((i+1:Nat):Int)=((i+1:Nat):Int):=zbT U U
    have hpl:=zcF ((i+1:Nat):Int)
    obtain ⟨X,hX⟩:∃X,X=sayS k 4 (putS8 ((i+1:Nat):Int) 4++m):=⟨_,rfl⟩
    have hXl:X.length≤4116:=cI
    rw [← hX] at hg
    refine' walkW (zo hcmp hrow hb hwi hwu (zq hw3 hX.symm hll)) (za zbX <| za zS <| za zt <| zb _)
    all_goals first|omega|exact hMl.2|skip
    exact ⟨⟨(i+1,t++X,ids++ [((i+1:Nat):Int)]),U,cp,cU,hg⟩,dG,af⟩
   |false=>
    rw [if_neg bH] at hg
    rw [hkn] at hb
    refine' walkW (zE hcmp hrow hb hwi) (za zbX <| za zS <| za zt <| zb _)
    all_goals first|omega|exact hMl.2|skip
    exact ⟨⟨(i+1,t,ids),U,cC,du,hg⟩,lev,af⟩
  ·subst hend
   rw [List.drop_length,zao] at hg
   rw [hg] at hV
   have hl1:=zby k 1 []
   refine' walkW (zj hcmp hll) (za zbX <| za zS <| za zt <| zb _)
   all_goals first|omega|skip
   rw [hV]
@[go_sem] noncomputable def zak:Ent Tryz.prog 264:= .ofL (consL ngA_T (consL xpA_T (consL (aggT (consL (intT .u32) (consL strT nilL)) (fun p=>p) (fun p=>p) (fun _=>rfl)) nilL))) (fun (n,x,(k,d,_),_)=>(XpF x)∧(0≤k)∧(k≤4294967295)∧(d.length≤1000000)) (fun (n,x,(k,d,_),_)=> .tup [ngA (za5 n x k d).1,.d (.str (za5 n x k d).2)]) (fun (n,x,(k,d,_),_) hp=>⟨rfl,zoU n x k d hp.1 hp.2.1 hp.2.2.1 hp.2.2.2⟩)
open Go Go.Proofs
theorem zoV (x:Xp):(sizeS x.size).length=10:=ct
theorem zm8 (n:Ng) (x:Xp) (k:Int) (d:Txt) (h:XpF x) (h0:0≤k) (h1:k≤4294967295) (hd:d.length≤1000000):ACall Tryz.prog 193 0 [ngA n,xpA x,.agg [.d (.int .u32 k),.d (.str d)]] [] (fun r _=>r= .tup [ngA (ngOpt n x k d).1,.d (.str (ngOpt n x k d).2)]):=by
 obtain ⟨V,hV⟩:∃V,V=ngOpt n x k d:=⟨_,rfl⟩
 rw [← hV]
 unfold ngOpt at hV
 have hx:=h.ok
 have hsz:=zoV x
 have hsl:=fun o c t=>zby o c t
 by_cases k1:k=1
 ·subst k1
  rw [if_pos rfl] at hV
  cases ho:oursS d with
  |false=>
   rw [if_pos ho] at hV
   refine fbod Tryz.func193 Tryz.ntmps193 (fun base=>?_)
   refine' walkW ho (za zah <| za zS <| za zat <| za zaa <| za zak <| za zaj <| zb _)
   rw [hV]
  | true=>
   rw [if_neg (by rw [ho];decide)] at hV
   cases hb:n.brief with
   |true=>
    rw [hb] at hV
    refine fbod Tryz.func193 Tryz.ntmps193 (fun base=>?_)
    refine' walkW (zj ho hb) (za zah <| za zS <| za zat <| za zaa <| za zak <| za zaj <| zb _)
    rw [hV]
    simp
   | false=>
    rw [hb] at hV
    refine fbod Tryz.func193 Tryz.ntmps193 (fun base=>?_)
    refine' walkW (zj ho hb) (za zah <| za zS <| za zat <| za zaa <| za zak <| za zaj <| zb _)
    ·rfl
    ·rw [hsz]
     show 10+124<9223372036854775808
     decide
    rw [hV]
    rfl
 rw [if_neg k1] at hV
 by_cases k2:k=2
 ·subst k2
  rw [if_pos rfl] at hV
  refine fbod Tryz.func193 Tryz.ntmps193 (fun base=>?_)
  refine' walkW fx (za zah <| za zS <| za zat <| za zaa <| za zak <| za zaj <| zb _)
  rw [hV]
 rw [if_neg k2] at hV
 by_cases k3:k=3
 ·subst k3
  rw [if_pos rfl] at hV
  by_cases he:d= []
  ·have hb:(d != [])=false:=by simpa using he
   rw [if_neg (fun e=>e he)] at hV
   have s1:=hsl 3 2 (zd4 [100,105,115,107])
   have s2:=hsl 3 1 []
   refine fbod Tryz.func193 Tryz.ntmps193 (fun base=>?_)
   refine' walkW hb (za zah <| za zS <| za zat <| za zaa <| za zak <| za zaj <| zb _)
   rw [hV]
  ·have hb:(d != [])=true:=by simpa using he
   rw [if_pos he] at hV
   refine fbod Tryz.func193 Tryz.ntmps193 (fun base=>?_)
   refine' walkW hb (za zah <| za zS <| za zat <| za zaa <| za zak <| za zaj <| zb _)
   rw [hV]
 rw [if_neg k3] at hV
 have b1:(k==1)=false:=by simpa using k1
 have b2:(k==2)=false:=by simpa using k2
 have b3:(k==3)=false:=by simpa using k3
 by_cases k67:k=6∨k=7
 ·rw [if_pos k67] at hV
  obtain ⟨A,hA⟩:∃A,A=zc8 d:=⟨_,rfl⟩
  rw [← hA] at hV
  have s1:(sayS k 3 (0::0::sizeS x.size)).length≤4116:=hsl _ _ _
  have s2:=hsl k 1 []
  rcases k67 with rfl|rfl
  ·refine fbod Tryz.func193 Tryz.ntmps193 (fun base=>?_)
   refine' walkW hA.symm (za zah <| za zS <| za zat <| za zaa <| za zak <| za zaj <| zb _)
   ·rw [if_pos ak] at hV
    rw [hV]
   ·rename_i hc1
    rw [if_neg aT,if_pos ak] at hV
    rw [hV]
   rename_i hc1
   rw [if_neg aT,if_neg ak] at hV
   rw [hV];rfl
  ·refine fbod Tryz.func193 Tryz.ntmps193 (fun base=>?_)
   refine' walkW hA.symm (za zah <| za zS <| za zat <| za zaa <| za zak <| za zaj <| zb _)
   ·rw [if_pos ak] at hV
    rw [hV]
   ·rename_i hc1
    rw [if_neg aT,if_pos ak] at hV
    rw [hV]
   rename_i hc1
   rw [if_neg aT,if_neg ak] at hV
   rw [hV];rfl
 rw [if_neg k67] at hV
 have b6:(k==6)=false:=af
 have b7:(k==7)=false:=af
 by_cases k8:k=8
 ·subst k8
  rw [if_pos rfl] at hV
  by_cases he:d= []
  ·have hb:(d != [])=false:=by simpa using he
   rw [if_neg (fun e=>e he)] at hV
   refine fbod Tryz.func193 Tryz.ntmps193 (fun base=>?_)
   refine' walkW hb (za zah <| za zS <| za zat <| za zaa <| za zak <| za zaj <| zb _)
   rw [hV]
  ·have hb:(d != [])=true:=by simpa using he
   rw [if_pos he] at hV
   refine fbod Tryz.func193 Tryz.ntmps193 (fun base=>?_)
   refine' walkW hb (za zah <| za zS <| za zat <| za zaa <| za zak <| za zaj <| zb _)
   rw [hV]
 rw [if_neg k8] at hV
 have b8:(k==8)=false:=by simpa using k8
 by_cases k910:k=9∨k=10
 ·rw [if_pos k910] at hV
  rcases k910 with rfl|rfl
  ·refine fbod Tryz.func193 Tryz.ntmps193 (fun base=>?_)
   refine' walkW fx (za zah <| za zS <| za zat <| za zaa <| za zak <| za zaj <| zb _)
   rw [hV]
  ·refine fbod Tryz.func193 Tryz.ntmps193 (fun base=>?_)
   refine' walkW fx (za zah <| za zS <| za zat <| za zaa <| za zak <| za zaj <| zb _)
   rw [hV]
 rw [if_neg k910] at hV
 have b9:(k==9)=false:=af
 have b10:(k==10)=false:=af
 refine fbod Tryz.func193 Tryz.ntmps193 (fun base=>?_)
 (have tk:=za zah <| za zS <| za zat <| za zaa <| za zak <| za zaj <| zb Tryz.prog);repeat' (first|((first|(refine sa ?_;intro K hK)|refine sb ?_);simp only [go_sem,aeq,aeq.aeqF,simprocAttr,b1,b2,b3,b6,b7,b8,b9,b10,Tryz.results193])|refine zbm (fun K hK=>?_)|refine sc ?_|refine zb3 rfl (fun hc=>?_) (fun hc=>?_)|(refine hK _ ?_;clear hK K)|with_reducible refine And.intro ?_ ?_|(refine (show zb5 _ _=true from ?_);kernel_rfl)|omega|assumption|clear hK K)
 rw [hV]
@[go_sem] noncomputable def zbE:Ent Tryz.prog 193:= .ofL (consL ngA_T (consL xpA_T (consL (aggT (consL (intT .u32) (consL strT nilL)) (fun p=>p) (fun p=>p) (fun _=>rfl)) nilL))) (fun (n,x,(k,d,_),_)=>(XpF x)∧(0≤k)∧(k≤4294967295)∧(d.length≤1000000)) (fun (n,x,(k,d,_),_)=> .tup [ngA (ngOpt n x k d).1,.d (.str (ngOpt n x k d).2)]) (fun (n,x,(k,d,_),_) hp=>⟨rfl,zm8 n x k d hp.1 hp.2.1 hp.2.2.1 hp.2.2.2⟩)
end Go.Aw
