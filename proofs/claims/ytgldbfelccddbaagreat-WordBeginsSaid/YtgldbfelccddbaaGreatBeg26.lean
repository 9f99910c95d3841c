/-
 Sorting numbers: few that are out of place.
-/
import Derived.Test.YtgldbfelccddbaaGreatBeg21
set_option maxRecDepth 100000
set_option maxHeartbeats 2000000
set_option linter.unusedSimpArgs false
set_option linter.unusedVariables false
namespace Go.Aw
open Go Go.Proofs
def upI (b:Nat) (l:List Int):Nat→Nat→Nat
 |0,i=>i
 |n+1,i=>if i<b∧¬l.getD i 0<l.getD (i - 1) 0 then upI b l n (i+1) else i
theorem zmq (b:Nat) (l:List Int):∀ (n i:Nat),i≤b→i≤upI b l n i∧upI b l n i≤b
 |0,i,h=>⟨Nat.le_refl _,h⟩
 |n+1,i,h=>by
  rw [upI]
  split
  ·have:=zmq b l n (i+1) (by omega);omega
  ·omega
def fwI (b:Nat):Nat→Nat→List Int→List Int
 |0,_,l=>l
 |n+1,j,l=>if j<b∧l.getD j 0<l.getD (j - 1) 0 then fwI b n (j+1) (swp l j (j - 1)) else l
theorem zmr (b:Nat):∀ (n j:Nat) (l:List Int),(fwI b n j l).length=l.length
 |0,_,_=>rfl
 |n+1,j,l=>by
  rw [fwI]
  split
  ·rw [zmr,zC]
  ·rfl
def pisA (a:Nat) (u:Nat) (l:List Int):List Int:=if 2≤u - a then insI 0 (u - 1) l else l
def pisB (b:Nat) (u:Nat) (l:List Int):List Int:=if 2≤b - u then fwI b l.length (u+1) l else l
def pis (a b:Nat):Nat→Nat→List Int→Bool×List Int
 |0,_,l=>(false,l)
 |n+1,i,l=>
  if upI b l l.length i=b then (true,l) else if b - a<50 then (false,l)
  else pis a b n (upI b l l.length i) (pisB b (upI b l l.length i) (pisA a (upI b l l.length i) (swp l (upI b l l.length i) (upI b l l.length i - 1))))
theorem zeh {a u:Nat} {l:List Int} :(pisA a u l).length=l.length:=by unfold pisA;split;exact zef .. ;rfl
theorem zgD {a u:Nat} {l:List Int} :(pisB a u l).length=l.length:=by unfold pisB;split;exact zmr .. ;rfl
theorem zms (a b:Nat):∀ (n i:Nat) (l:List Int),(pis a b n i l).2.length=l.length
 |0,_,_=>rfl
 |n+1,i,l=>by
  rw [pis]
  split
  ·rfl
  split
  ·rfl
  ·rw [zms,zgD,zeh,zC]
def pisS (a b:Nat) (l:List Int):Bool×List Int:=pis a b 5 (a+1) l
theorem zqu (l:List Int) (N a b:Nat) (hN:l.length=N) (ha:a<b) (hb:b≤N) (hl:N≤1000):ACall Tryz.prog 210 60 [.osl 5 1 N 0 N,.d (.int .i64 a),.d (.int .i64 b)] [(5,.arr 1 (l.map ckD))] (fun r h'=>r= .d (.bool (pisS a b l).1)∧h'= [(5,.arr 1 ((pisS a b l).2.map ckD))]):=by
 obtain ⟨P,hP⟩:∃P,P=pisS a b l:=⟨_,rfl⟩
 rw [← hP]
 rw [pisS] at hP
 have hwa:=zp (i:=a) (by omega)
 have hwba:IntKind.i64.wrap ((b:Int) - a)=((b - a:Nat):Int):=by rw [zf (by omega) (by omega)];omega
 refine bod Tryz.func210 Tryz.ntmps210 (fun base=>?_)
 refine' zi hwa
 refine zt (fun q: { q:Nat×Nat×List Int // q.2.2.length=N∧a<q.2.1∧q.2.1≤b∧q.1≤5∧P=pis a b q.1 q.2.1 q.2.2 } =>⟨[(0,true,.osl 5 1 N 0 N),(1,true,.d (.int .i64 a)),(2,true,.d (.int .i64 b)),(7,true,.d (.int .i64 q.1.2.1)),(8,true,.d (.int .i64 ((5 - q.1.1:Nat):Int)))],[(5,.arr 1 (q.1.2.2.map ckD))],some []⟩) (fun q=>q.1.1) ⟨(5,a+1,l),hN,by simp only;omega,by simp only;omega,Nat.le_refl _,hP⟩ le1 (fun q=>?_)
 obtain ⟨⟨n,i,k⟩,hk,h1,h2,h3,hf⟩:=q
 simp only at hk h1 h2 h3 hf ⊢
 obtain ⟨c,hc5⟩:∃c,c=5 - n:=⟨_,rfl⟩
 rw [← hc5]
 cases n with
 |zero=>
  have hcmp:decide ((c:Int)<5)=false:=decide_eq_false (by omega)
  rw [pis] at hf
  refine' zi hcmp
  all_goals first|omega|(rw [hf];done)
 | succ n=>
  have hcmp:decide ((c:Int)<5)=true:=decide_eq_true (by omega)
  have hwc:=zp (i:=c) (by omega)
  rw [pis,hk] at hf
  have hkl:(k.map ckD).length=N:=by rw [zaq,hk]
  obtain ⟨u,hu⟩:∃u,u=upI b k N i:=⟨_,rfl⟩
  have hur:=zmq b k N i h2
  rw [← hu] at hur hf
  refine' zi hcmp
  refine (fun hJ=>?_) (zdh (s1:=⟨[(0,true,.osl 5 1 N 0 N),(1,true,.d (.int .i64 a)),(2,true,.d (.int .i64 b)),(7,true,.d (.int .i64 u)),(8,true,.d (.int .i64 c))],[(5,.arr 1 (k.map ckD))],some []⟩) hK ?_)
  ·clear hK
   have hK:=hJ
   clear hJ
   refine zt (fun q: { q:Nat×Nat // i≤q.2∧q.2≤b∧b≤q.1+q.2∧u=upI b k q.1 q.2 } =>⟨[(0,true,.osl 5 1 N 0 N),(1,true,.d (.int .i64 a)),(2,true,.d (.int .i64 b)),(7,true,.d (.int .i64 q.1.2)),(8,true,.d (.int .i64 c))],[(5,.arr 1 (k.map ckD))],some []⟩) (fun q=>q.1.1) ⟨(N,i),Nat.le_refl _,h2,by simp only;omega,hu⟩ le1 (fun q=>?_)
   obtain ⟨⟨n1,i1⟩,g1,g2,g3,hf1⟩:=q
   simp only at g1 g2 g3 hf1 ⊢
   have hr1:=zfM (l:=k) (i:=i1)
   rw [hk] at hr1
   have hr0:=ck_at (l:=k) (i:=i1 - 1) (by omega)
   have hwi:=zp (i:=i1) (by omega)
   have hwd:IntKind.i64.wrap ((i1:Int) - 1)=((i1 - 1:Nat):Int):=by rw [zf (by omega) (by omega)];omega
   by_cases hij:i1<b
   ·have hcmp:decide ((i1:Int)<(b:Int))=true:=decide_eq_true (by omega)
    rw [if_pos (by omega)] at hr1
    obtain ⟨n1,rfl⟩:∃m,n1=m+1:=⟨n1 - 1,by omega⟩
    rw [upI] at hf1
    cases hlx:decide (k.getD i1 0<k.getD (i1 - 1) 0) with
    |false=>
     rw [if_pos ⟨hij,of_decide_eq_false hlx⟩] at hf1
     refine' walkR (zA hcmp hkl hr0 hr1 hwd hlx) (zb zj <| za _)
     all_goals first|omega|skip
     exact ⟨⟨(n1,i1+1),by simp only;omega,by simp only;omega,by simp only;omega,hf1⟩,lev,by simp⟩
    |true=>
     rw [if_neg (fun h=>h.2 (of_decide_eq_true hlx))] at hf1
     refine' walkR (zA hcmp hkl hr0 hr1 hwd hlx) (zb zj <| za _)
     all_goals first|omega|(rw [hf1];done)
   ·have hcmp:decide ((i1:Int)<(b:Int))=false:=decide_eq_false (by omega)
    have hf1:u=i1:=by
     rw [hf1]
     cases n1 with
     |zero=>rfl
     |succ n1=>rw [upI,if_neg (fun h=>hij h.1)]
    by_cases hN1:i1<N
    ·rw [if_pos hN1] at hr1
     refine' walkR (zad hcmp hkl hr0 hr1 hwd) (zb zj <| za _)
     all_goals first|omega|(rw [hf1];done)
    ·rw [if_neg hN1] at hr1
     refine' walkR (zA hcmp hkl hr0 hr1 hwd @zhJ) (zb zeQ <| za _)
     all_goals first|omega|(rw [hf1];done)
  cases hub:((u:Int)==(b:Int)) with
  |true=>
   rw [if_pos (by rw [beq_iff_eq] at hub;omega)] at hf
   refine' zi hub
   all_goals first|omega|(rw [hf];done)
  |false=>
  rw [beq_eq_false_iff_ne] at hub
  rw [if_neg (by omega)] at hf
  have hub2:((u:Int)==(b:Int))=false:=beq_eq_false_iff_ne.2 hub
  by_cases h50:b - a<50
  ·have hc50:decide (((b - a:Nat):Int)<50)=true:=decide_eq_true (by omega)
   rw [if_pos h50] at hf
   refine' zi (zF hub2 hwba hc50)
   all_goals first|omega|(rw [hf];done)
  have hc50:decide (((b - a:Nat):Int)<50)=false:=decide_eq_false (by omega)
  rw [if_neg h50] at hf
  have hr1:=ck_at (l:=k) (i:=u) (by omega)
  have hr0:=ck_at (l:=k) (i:=u - 1) (by omega)
  have hr3:=zbg (l:=k) (i:=u) (j:=u - 1) (by omega)
  have hsl:((k.map ckD).set u [.int .u64 (k.getD (u - 1) 0)]).length=N:=by rw [List.length_set,hkl]
  have hsw:=zbf (l:=k) (i:=u) (j:=u - 1)
  have hwd:IntKind.i64.wrap ((u:Int) - 1)=((u - 1:Nat):Int):=by rw [zf (by omega) (by omega)];omega
  refine' zcK (zP 12) (zA hub2 hwba hc50 hkl hr0 (zad hr1 hwd hr3 hsl hsw))
  all_goals first|omega|skip
  obtain ⟨m,hm⟩:∃m,m=swp k u (u - 1):=⟨_,rfl⟩
  have hml:m.length=N:=by rw [hm,zC,hk]
  obtain ⟨x,hx⟩:∃x,x=pisA a u m:=⟨_,rfl⟩
  have hxl:x.length=N:=by rw [hx,zeh,hml]
  obtain ⟨y,hy⟩:∃y,y=pisB b u x:=⟨_,rfl⟩
  have hyl:y.length=N:=by rw [hy,zgD,hxl]
  rw [← hm,← hx,← hy] at hf
  rw [← hm]
  clear hr1 hr0 hr3 hsl hsw hkl
  refine zdE ⟨[(0,true,.osl 5 1 N 0 N),(1,true,.d (.int .i64 a)),(2,true,.d (.int .i64 b)),(7,true,.d (.int .i64 u)),(8,true,.d (.int .i64 c))],[(5,.arr 1 (x.map ckD))],some []⟩ ?_ ?_
  ·have hwua:IntKind.i64.wrap ((u:Int) - (a:Int))=((u - a:Nat):Int):=by rw [zf (by omega) (by omega)];omega
   unfold pisA at hx
   by_cases h2:2≤u - a
   ·have hc2:decide ((2:Int)≤((u - a:Nat):Int))=true:=decide_eq_true (by omega)
    rw [if_pos h2] at hx
    refine' zi (zF hwua hc2 hwd)
    refine zt (fun q: { q:Nat×List Int // q.2.length=N∧q.1<u∧x=insI 0 q.1 q.2 } =>⟨[(0,true,.osl 5 1 N 0 N),(1,true,.d (.int .i64 a)),(2,true,.d (.int .i64 b)),(7,true,.d (.int .i64 u)),(8,true,.d (.int .i64 c)),(9,true,.d (.int .i64 q.1.1))],[(5,.arr 1 (q.1.2.map ckD))],some []⟩) (fun q=>q.1.1) ⟨(u - 1,m),hml,by simp only;omega,hx⟩ le1 (fun q=>?_)
    obtain ⟨⟨j,z⟩,hz,hj,hg⟩:=q
    simp only at hz hj hg ⊢
    cases j with
    |zero=>
     rw [insI] at hg
     refine' zi fx
     all_goals first|omega|(rw [hg];done)
    | succ j=>
     have hcj:decide ((1:Int)≤((j+1:Nat):Int))=true:=decide_eq_true (by omega)
     have hkl:(z.map ckD).length=N:=by rw [zaq,hz]
     have hr1:=ck_at (l:=z) (i:=j+1) (by omega)
     have hr0:=ck_at (l:=z) (i:=j) (by omega)
     have hr3:=zbg (l:=z) (i:=j+1) (j:=j) (by omega)
     have hsl:((z.map ckD).set (j+1) [.int .u64 (z.getD j 0)]).length=N:=by rw [List.length_set,hkl]
     have hsw:=zbf (l:=z) (i:=j+1) (j:=j)
     have hwj:IntKind.i64.wrap (((j+1:Nat):Int) - 1)=(j:Int):=by rw [zf (by omega) (by omega)];omega
     rw [insI] at hg
     cases hlx:decide (z.getD (j+1) 0<z.getD j 0) with
     |true=>
      rw [if_pos ⟨by omega,of_decide_eq_true hlx⟩] at hg
      refine' walkR (zA hcj hkl hr0 hr1 hwj (z7 hlx hr3 hsl hsw)) (zb zj <| za _)
      all_goals first|omega|skip
      exact ⟨⟨(j,swp z (j+1) j),by simp only [zC,hz],by simp only;omega,hg⟩,by simp only [AS.le,leT,leH,zh,AsgK,AV.le,AV.leL,AObj.le,inH,idsT,idsH,AV.ids,AV.idsL,AV.idsR,AObj.ids,lk,hget,go_sem,aeq,aeq.aeqF,simprocAttr]<;>and_intros<;>rfl,by simp⟩
     |false=>
      rw [if_neg (fun h=>of_decide_eq_false hlx h.2)] at hg
      refine' walkR (zA hcj hkl hr0 hr1 hwj hlx) (zb zj <| za _)
      all_goals first|omega|(rw [hg];done)
   ·have hc2:decide ((2:Int)≤((u - a:Nat):Int))=false:=decide_eq_false (by omega)
    rw [if_neg h2] at hx
    rw [hx]
    refine' zi (zu hwua hc2)
  refine' zcK (zP 18) fx
  clear hK K
  refine (fun hJ=>?_) (zdh (s1:=⟨[(0,true,.osl 5 1 N 0 N),(1,true,.d (.int .i64 a)),(2,true,.d (.int .i64 b)),(7,true,.d (.int .i64 u)),(8,true,.d (.int .i64 c))],[(5,.arr 1 (y.map ckD))],some []⟩) hK ?_)
  ·clear hK
   have hK:=hJ
   clear hJ
   have hwub:IntKind.i64.wrap ((b:Int) - (u:Int))=((b - u:Nat):Int):=by rw [zf (by omega) (by omega)];omega
   have hwu:=zp (i:=u) (by omega)
   unfold pisB at hy
   by_cases h2:2≤b - u
   ·have hc2:decide ((2:Int)≤((b - u:Nat):Int))=true:=decide_eq_true (by omega)
    rw [if_pos h2,hxl] at hy
    refine' zi (zF hwub hc2 hwu)
    refine zt (fun q: { q:Nat×Nat×List Int // q.2.2.length=N∧u<q.2.1∧q.2.1≤b∧b≤q.1+q.2.1∧y=fwI b q.1 q.2.1 q.2.2 } =>⟨[(0,true,.osl 5 1 N 0 N),(1,true,.d (.int .i64 a)),(2,true,.d (.int .i64 b)),(7,true,.d (.int .i64 u)),(8,true,.d (.int .i64 c)),(10,true,.d (.int .i64 q.1.2.1))],[(5,.arr 1 (q.1.2.2.map ckD))],some []⟩) (fun q=>q.1.1) ⟨(N,u+1,x),hxl,by simp only;omega,by simp only;omega,by simp only;omega,hy⟩ le1 (fun q=>?_)
    obtain ⟨⟨n1,j,z⟩,hz,hj,hjb,hn1,hg⟩:=q
    simp only at hz hj hjb hn1 hg ⊢
    by_cases hjb2:j<b
    ·have hcj:decide ((j:Int)<(b:Int))=true:=decide_eq_true (by omega)
     obtain ⟨n1,rfl⟩:∃m,n1=m+1:=⟨n1 - 1,by omega⟩
     have hkl:(z.map ckD).length=N:=by rw [zaq,hz]
     have hr1:=ck_at (l:=z) (i:=j) (by omega)
     have hr0:=ck_at (l:=z) (i:=j - 1) (by omega)
     have hr3:=zbg (l:=z) (i:=j) (j:=j - 1) (by omega)
     have hsl:((z.map ckD).set j [.int .u64 (z.getD (j - 1) 0)]).length=N:=by rw [List.length_set,hkl]
     have hsw:=zbf (l:=z) (i:=j) (j:=j - 1)
     have hwj:IntKind.i64.wrap ((j:Int) - 1)=((j - 1:Nat):Int):=by rw [zf (by omega) (by omega)];omega
     have hwj2:=zp (i:=j) (by omega)
     rw [fwI] at hg
     cases hlx:decide (z.getD j 0<z.getD (j - 1) 0) with
     |true=>
      rw [if_pos ⟨hjb2,of_decide_eq_true hlx⟩] at hg
      refine' walkR (zA hcj hkl hr0 hr1 hwj (z7 hlx hr3 hsl hsw)) (zb zj <| za _)
      all_goals first|omega|skip
      exact ⟨⟨(n1,j+1,swp z j (j - 1)),by simp only [zC,hz],by simp only;omega,by simp only;omega,by simp only;omega,hg⟩,by simp only [AS.le,leT,leH,zh,AsgK,AV.le,AV.leL,AObj.le,inH,idsT,idsH,AV.ids,AV.idsL,AV.idsR,AObj.ids,lk,hget,go_sem,aeq,aeq.aeqF,simprocAttr,hwj2]<;>and_intros<;>rfl,by simp⟩
     |false=>
      rw [if_neg (fun h=>of_decide_eq_false hlx h.2)] at hg
      refine' walkR (zA hcj hkl hr0 hr1 hwj hlx) (zb zj <| za _)
      all_goals first|omega|(rw [hg];done)
    ·have hcj:decide ((j:Int)<(b:Int))=false:=decide_eq_false (by omega)
     have hg:y=z:=by
      rw [hg]
      cases n1 with
      |zero=>rfl
      |succ n1=>rw [fwI,if_neg (fun h=>hjb2 h.1)]
     refine' zi hcj
     all_goals first|omega|(rw [hg];done)
   ·have hc2:decide ((2:Int)≤((b - u:Nat):Int))=false:=decide_eq_false (by omega)
    rw [if_neg h2] at hy
    refine' zi (zu hwub hc2)
    all_goals first|omega|(rw [hy];done)
  ·have hnc:5 - n=c+1:=by omega
   refine' zi hwc
   all_goals first|omega|skip
   exact ⟨⟨(n,u,y),hyl,by simp only;omega,by simp only;omega,by simp only;omega,hf⟩,by simp only [AS.le,leT,leH,zh,AsgK,AV.le,AV.leL,AObj.le,inH,idsT,idsH,AV.ids,AV.idsL,AV.idsR,AObj.ids,lk,hget,go_sem,aeq,aeq.aeqF,simprocAttr,hnc]<;>and_intros<;>rfl,by simp⟩
end Go.Aw
