/-
 Parts of the proof: lemmas.
-/
import Derived.Test.YtgldbfelccddbaaGreatBeg19
import Derived.Test.YtgldbfelccddbaaGreatBeg26
set_option maxRecDepth 100000
set_option maxHeartbeats 2000000
set_option linter.unusedSimpArgs false
set_option linter.unusedVariables false
namespace Go.Aw
open Go Go.Proofs
def upP (a:Nat) (l:List Int):Nat→Nat→Nat→Nat
 |0,i,_=>i
 |n+1,i,j=>if i≤j∧l.getD i 0<l.getD a 0 then upP a l n (i+1) j else i
def dnP (a:Nat) (l:List Int):Nat→Nat→Nat→Nat
 |0,_,j=>j
 |n+1,i,j=>if i≤j∧¬l.getD j 0<l.getD a 0 then dnP a l n i (j - 1) else j
theorem zcO (a:Nat) (l:List Int):∀ (n i j:Nat),i≤upP a l n i j∧(upP a l n i j≤j+1∨upP a l n i j=i)
 |0,i,j=>⟨Nat.le_refl _,.inr rfl⟩
 |n+1,i,j=>by
  rw [upP]
  split
  ·have:=zcO a l n (i+1) j;omega
  ·omega
theorem zcP (a:Nat) (l:List Int):∀ (n i j:Nat),dnP a l n i j≤j∧(i≤dnP a l n i j+1∨dnP a l n i j=j)
 |0,i,j=>⟨Nat.le_refl _,.inr rfl⟩
 |n+1,i,j=>by
  rw [dnP]
  split
  ·have:=zcP a l n i (j - 1);omega
  ·omega
theorem zmp {a:Nat} {l:List Int} {n i j:Nat} (h:j<i):upP a l n i j=i:=by
 cases n with
 |zero=>rfl
 |succ n=>rw [upP,if_neg (by omega)]
theorem zgC {a:Nat} {l:List Int} {n i j:Nat} (h:j<i):dnP a l n i j=j:=by
 cases n with
 |zero=>rfl
 |succ n=>rw [dnP,if_neg (by omega)]
def ppt (a:Nat):Nat→Nat→Nat→List Int→Nat×List Int
 |0,_,j,l=>(j,l)
 |n+1,i,j,l=>
  if dnP a l l.length (upP a l l.length i j) j<upP a l l.length i j then (dnP a l l.length (upP a l l.length i j) j,l)
  else ppt a n (upP a l l.length i j+1) (dnP a l l.length (upP a l l.length i j) j - 1) (swp l (upP a l l.length i j) (dnP a l l.length (upP a l l.length i j) j))
theorem ziI (a b:Nat):∀ (n i j:Nat) (l:List Int),a<i→i≤b→a≤j→j<b→i≤j+2→a≤(ppt a n i j l).1∧(ppt a n i j l).1<b∧(ppt a n i j l).2.length=l.length
 |0,i,j,l,h1,h2,h3,h4,h5=>⟨h3,h4,rfl⟩
 | n+1,i,j,l,h1,h2,h3,h4,h5=>by
  rw [ppt]
  have g1:=zcO a l l.length i j
  have g2:=zcP a l l.length (upP a l l.length i j) j
  split
  ·exact ⟨by simp only;omega,by simp only;omega,rfl⟩
  ·have:=ziI a b n (upP a l l.length i j+1) (dnP a l l.length (upP a l l.length i j) j - 1) (swp l (upP a l l.length i j) (dnP a l l.length (upP a l l.length i j) j)) (by omega) (by omega) (by omega) (by omega) (by omega)
   rw [zC] at this
   exact this
def prtK (a b:Nat) (l:List Int) (u d:Nat):(Nat×Bool)×List Int:=
 if d<u then ((d,true),swp l d a) else (((ppt a l.length (u+1) (d - 1) (swp l u d)).1,false),swp (ppt a l.length (u+1) (d - 1) (swp l u d)).2 (ppt a l.length (u+1) (d - 1) (swp l u d)).1 a)
def prtS (a b p:Nat) (l:List Int):(Nat×Bool)×List Int:=
 prtK a b (swp l a p) (upP a (swp l a p) l.length (a+1) (b - 1)) (dnP a (swp l a p) l.length (upP a (swp l a p) l.length (a+1) (b - 1)) (b - 1))
theorem zjF {a b p:Nat} {l:List Int} (h:a<b):a≤(prtS a b p l).1.1∧(prtS a b p l).1.1<b∧(prtS a b p l).2.length=l.length:=by
 unfold prtS prtK
 have g1:=zcO a (swp l a p) l.length (a+1) (b - 1)
 have g2:=zcP a (swp l a p) l.length (upP a (swp l a p) l.length (a+1) (b - 1)) (b - 1)
 split
 ·exact ⟨by simp only;omega,by simp only;omega,by simp only [zC]⟩
 ·have:=ziI a b (swp l a p).length (upP a (swp l a p) l.length (a+1) (b - 1)+1) (dnP a (swp l a p) l.length (upP a (swp l a p) l.length (a+1) (b - 1)) (b - 1) - 1) (swp (swp l a p) (upP a (swp l a p) l.length (a+1) (b - 1)) (dnP a (swp l a p) l.length (upP a (swp l a p) l.length (a+1) (b - 1)) (b - 1))) (by omega) (by omega) (by omega) (by omega) (by omega)
  refine ⟨this.1,this.2.1,?_⟩
  simp only [zC] at this ⊢
  exact this.2.2
theorem zpz (l:List Int) (N a b p:Nat) (hN:l.length=N) (ha:a≤p) (hp:p<b) (hb:b≤N) (hl:N≤1000):ACall Tryz.prog 213 60 [.osl 5 1 N 0 N,.d (.int .i64 a),.d (.int .i64 b),.d (.int .i64 p)] [(5,.arr 1 (l.map ckD))] (fun r h'=>r= .tup [.d (.int .i64 (prtS a b p l).1.1),.d (.bool (prtS a b p l).1.2)]∧h'= [(5,.arr 1 ((prtS a b p l).2.map ckD))]):=by
 obtain ⟨P,hP⟩:∃P,P=prtS a b p l:=⟨_,rfl⟩
 rw [← hP]
 rw [prtS,hN] at hP
 have hkl:(l.map ckD).length=N:=by rw [zaq,hN]
 have hr1:=ck_at (l:=l) (i:=a) (by omega)
 have hr2:=ck_at (l:=l) (i:=p) (by omega)
 have hr3:=zbg (l:=l) (i:=a) (j:=p) (by omega)
 have hsl:((l.map ckD).set a [.int .u64 (l.getD p 0)]).length=N:=by rw [List.length_set,hkl]
 have hsw:=zbf (l:=l) (i:=a) (j:=p)
 have hwa:=zp (i:=a) (by omega)
 have hwb:IntKind.i64.wrap ((b:Int) - 1)=((b - 1:Nat):Int):=by rw [zf (by omega) (by omega)];omega
 refine bod Tryz.func213 Tryz.ntmps213 (fun base=>?_)
 refine' zi (zA hkl hr1 hr2 hr3 hsl (zF hsw hwa hwb))
 all_goals first|omega|skip
 obtain ⟨k,hkk⟩:∃k,k=swp l a p:=⟨_,rfl⟩
 have hk:k.length=N:=by rw [hkk,zC,hN]
 rw [← hkk] at hP
 obtain ⟨i,hi⟩:∃i,i=a+1:=⟨_,rfl⟩
 obtain ⟨j,hj⟩:∃j,j=b - 1:=⟨_,rfl⟩
 rw [← hi,← hj] at hP
 clear hkl hr1 hr2 hr3 hsl hsw
 refine aw_le ⟨[(0,true,.osl 5 1 N 0 N),(1,true,.d (.int .i64 a)),(10,true,.d (.int .i64 i)),(11,true,.d (.int .i64 j))],[(5,.arr 1 (k.map ckD))],some []⟩ (by rw [hkk,hi,hj];simp only [AS.le,leT,leH,zh,AsgK,AV.le,AV.leL,AObj.le,inH,idsT,idsH,AV.ids,AV.idsL,AV.idsR,AObj.ids,lk,hget,go_sem,aeq,aeq.aeqF,simprocAttr]<;>and_intros<;>rfl) ?_
 have hkl:(k.map ckD).length=N:=by rw [zaq,hk]
 have hra:=ck_at (l:=k) (i:=a) (by omega)
 obtain ⟨u,hu⟩:∃u,u=upP a k N i j:=⟨_,rfl⟩
 have hur:=zcO a k N i j
 rw [← hu] at hur hP
 refine' zi fx
 refine (fun hJ=>?_) (zdh (s1:=⟨[(0,true,.osl 5 1 N 0 N),(1,true,.d (.int .i64 a)),(10,true,.d (.int .i64 u)),(11,true,.d (.int .i64 j))],[(5,.arr 1 (k.map ckD))],some []⟩) hK ?_)
 ·clear hK
  have hK:=hJ
  clear hJ
  refine zt (fun q: { q:Nat×Nat // i≤q.2∧(q.2≤j+1∨q.2=i)∧j+1≤q.1+q.2∧u=upP a k q.1 q.2 j } =>⟨[(0,true,.osl 5 1 N 0 N),(1,true,.d (.int .i64 a)),(10,true,.d (.int .i64 q.1.2)),(11,true,.d (.int .i64 j))],[(5,.arr 1 (k.map ckD))],some []⟩) (fun q=>q.1.1) ⟨(N,i),Nat.le_refl _,.inr rfl,by simp only;omega,hu⟩ le1 (fun q=>?_)
  obtain ⟨⟨n1,i1⟩,g1,g2,g3,hf1⟩:=q
  simp only at g1 g2 g3 hf1 ⊢
  have hr1:=zfM (l:=k) (i:=i1)
  rw [hk] at hr1
  have hwi:=zp (i:=i1) (by omega)
  by_cases hij:i1≤j
  ·have hcmp:decide ((i1:Int)≤(j:Int))=true:=decide_eq_true (by omega)
   rw [if_pos (by omega)] at hr1
   obtain ⟨n1,rfl⟩:∃m,n1=m+1:=⟨n1 - 1,by omega⟩
   rw [upP] at hf1
   cases hlx:decide (k.getD i1 0<k.getD a 0) with
   |true=>
    rw [if_pos ⟨hij,of_decide_eq_true hlx⟩] at hf1
    refine' walkR (zad hcmp hkl hra hr1 hlx) (zb zj <| za _)
    all_goals first|omega|skip
    exact ⟨⟨(n1,i1+1),by simp only;omega,by simp only;omega,by simp only;omega,hf1⟩,lev,by simp⟩
   |false=>
    rw [if_neg (fun h=>of_decide_eq_false hlx h.2)] at hf1
    refine' walkR (zad hcmp hkl hra hr1 hlx) (zb zj <| za _)
    all_goals first|omega|(rw [hf1];done)
  ·have hcmp:decide ((i1:Int)≤(j:Int))=false:=decide_eq_false (by omega)
   rw [zmp (by omega)] at hf1
   by_cases hN1:i1<N
   ·rw [if_pos hN1] at hr1
    refine' walkR (z7 hcmp hkl hra hr1) (zb zj <| za _)
    all_goals first|omega|(rw [hf1];done)
   ·rw [if_neg hN1] at hr1
    refine' walkR (zad hcmp hkl hra hr1 @zhJ) (zb zeQ <| za _)
    all_goals first|omega|(rw [hf1];done)
 obtain ⟨d,hd⟩:∃d,d=dnP a k N u j:=⟨_,rfl⟩
 have hdr:=zcP a k N u j
 rw [← hd] at hdr
 refine' zi fx
 refine (fun hJ=>?_) (zdh (s1:=⟨[(0,true,.osl 5 1 N 0 N),(1,true,.d (.int .i64 a)),(10,true,.d (.int .i64 u)),(11,true,.d (.int .i64 d))],[(5,.arr 1 (k.map ckD))],some []⟩) hK ?_)
 ·clear hK
  have hK:=hJ
  clear hJ
  refine zt (fun q: { q:Nat×Nat // q.2≤j∧a≤q.2∧(u≤q.2+1∨q.2=j)∧q.2+1≤q.1+u∧d=dnP a k q.1 u q.2 } =>⟨[(0,true,.osl 5 1 N 0 N),(1,true,.d (.int .i64 a)),(10,true,.d (.int .i64 u)),(11,true,.d (.int .i64 q.1.2))],[(5,.arr 1 (k.map ckD))],some []⟩) (fun q=>q.1.1) ⟨(N,j),Nat.le_refl _,by simp only;omega,.inr rfl,by simp only;omega,hd⟩ le1 (fun q=>?_)
  obtain ⟨⟨n1,j1⟩,g1,g2,g3,g4,hf1⟩:=q
  simp only at g1 g2 g3 g4 hf1 ⊢
  have hr1:=ck_at (l:=k) (i:=j1) (by omega)
  by_cases hij:u≤j1
  ·have hwi:IntKind.i64.wrap ((j1:Int) - 1)=((j1 - 1:Nat):Int):=by rw [zf (by omega) (by omega)];omega
   have hcmp:decide ((u:Int)≤(j1:Int))=true:=decide_eq_true (by omega)
   obtain ⟨n1,rfl⟩:∃m,n1=m+1:=⟨n1 - 1,by omega⟩
   rw [dnP] at hf1
   cases hlx:decide (k.getD j1 0<k.getD a 0) with
   |false=>
    rw [if_pos ⟨hij,of_decide_eq_false hlx⟩] at hf1
    refine' walkR (zad hcmp hkl hra hr1 hlx) (zb zj <| za _)
    all_goals first|omega|skip
    exact ⟨⟨(n1,j1 - 1),by simp only;omega,by simp only;omega,by simp only;omega,by simp only;omega,hf1⟩,lev,by simp⟩
   |true=>
    rw [if_neg (fun h=>h.2 (of_decide_eq_true hlx))] at hf1
    refine' walkR (zad hcmp hkl hra hr1 hlx) (zb zj <| za _)
    all_goals first|omega|(rw [hf1];done)
  ·have hcmp:decide ((u:Int)≤(j1:Int))=false:=decide_eq_false (by omega)
   rw [zgC (by omega)] at hf1
   refine' walkR (z7 hcmp hkl hra hr1) (zb zj <| za _)
   all_goals first|omega|(rw [hf1];done)
 rw [← hd] at hP
 have hr0:=zfM (l:=k) (i:=u)
 rw [hk] at hr0
 have hr1:=ck_at (l:=k) (i:=d) (by omega)
 by_cases hud:d<u
 ·have hcmp:decide ((d:Int)<(u:Int))=true:=decide_eq_true (by omega)
  rw [prtK,if_pos hud] at hP
  have hr3:=zbg (l:=k) (i:=d) (j:=a) (by omega)
  have hsl:((k.map ckD).set d [.int .u64 (k.getD a 0)]).length=N:=by rw [List.length_set,hkl]
  have hsw:=zbf (l:=k) (i:=d) (j:=a)
  refine' zi (zA hcmp hkl hra hr1 hr3 (zu hsl hsw))
  all_goals first|omega|(rw [hP];done)
 ·have hcmp:decide ((d:Int)<(u:Int))=false:=decide_eq_false (by omega)
  rw [prtK,if_neg hud,hk] at hP
  rw [if_pos (by omega)] at hr0
  have hr3:=zbg (l:=k) (i:=u) (j:=d) (by omega)
  have hsl:((k.map ckD).set u [.int .u64 (k.getD d 0)]).length=N:=by rw [List.length_set,hkl]
  have hsw:=zbf (l:=k) (i:=u) (j:=d)
  have hwu:=zp (i:=u) (by omega)
  have hwd:IntKind.i64.wrap ((d:Int) - 1)=((d - 1:Nat):Int):=by rw [zf (by omega) (by omega)];omega
  refine' zi (zA hcmp hkl hr0 hr1 hr3 (z7 hsl hsw hwu hwd))
  all_goals first|omega|skip
  obtain ⟨R,hR⟩:∃R,R=ppt a N (u+1) (d - 1) (swp k u d):=⟨_,rfl⟩
  rw [← hR] at hP
  have hRr:=ziI a b N (u+1) (d - 1) (swp k u d) (by omega) (by omega) (by omega) (by omega) (by omega)
  rw [← hR,zC,hk] at hRr
  refine (fun hJ=>?_) (zdh (s1:=⟨[(0,true,.osl 5 1 N 0 N),(1,true,.d (.int .i64 a)),(11,true,.d (.int .i64 R.1))],[(5,.arr 1 (R.2.map ckD))],some []⟩) hK ?_)
  ·clear hK
   have hK:=hJ
   clear hJ
   refine zt (fun q: { q:Nat×Nat×Nat×List Int // q.2.2.2.length=N∧a<q.2.1∧q.2.1≤b∧a≤q.2.2.1∧q.2.2.1<b∧q.2.1≤q.2.2.1+2∧q.2.2.1+1≤q.1+q.2.1∧R=ppt a q.1 q.2.1 q.2.2.1 q.2.2.2 } =>⟨[(0,true,.osl 5 1 N 0 N),(1,true,.d (.int .i64 a)),(10,true,.d (.int .i64 q.1.2.1)),(11,true,.d (.int .i64 q.1.2.2.1))],[(5,.arr 1 (q.1.2.2.2.map ckD))],some []⟩) (fun q=>q.1.1) ⟨(N,u+1,d - 1,swp k u d),by rw [zC,hk],by simp only;omega,by simp only;omega,by simp only;omega,by simp only;omega,by simp only;omega,by simp only;omega,hR⟩ le1 (fun q=>?_)
   clear hkl hra hu hur hd hdr hr0 hr1 hr3 hsl hsw hwu hwd hcmp hud hP hRr hR hkk hk
   obtain ⟨⟨n,i,j,k⟩,hk,h1,h2,h3,h4,h5,h6,hf⟩:=q
   simp only at hk h1 h2 h3 h4 h5 h6 hf ⊢
   have hkl:(k.map ckD).length=N:=by rw [zaq,hk]
   have hra:=ck_at (l:=k) (i:=a) (by omega)
   obtain ⟨u,hu⟩:∃u,u=upP a k N i j:=⟨_,rfl⟩
   have hur:=zcO a k N i j
   rw [← hu] at hur
   refine' zi fx
   refine (fun hJ=>?_) (zdh (s1:=⟨[(0,true,.osl 5 1 N 0 N),(1,true,.d (.int .i64 a)),(10,true,.d (.int .i64 u)),(11,true,.d (.int .i64 j))],[(5,.arr 1 (k.map ckD))],some []⟩) hK ?_)
   ·clear hK
    have hK:=hJ
    clear hJ
    refine zt (fun q: { q:Nat×Nat // i≤q.2∧(q.2≤j+1∨q.2=i)∧j+1≤q.1+q.2∧u=upP a k q.1 q.2 j } =>⟨[(0,true,.osl 5 1 N 0 N),(1,true,.d (.int .i64 a)),(10,true,.d (.int .i64 q.1.2)),(11,true,.d (.int .i64 j))],[(5,.arr 1 (k.map ckD))],some []⟩) (fun q=>q.1.1) ⟨(N,i),Nat.le_refl _,.inr rfl,by simp only;omega,hu⟩ le1 (fun q=>?_)
    obtain ⟨⟨n1,i1⟩,g1,g2,g3,hf1⟩:=q
    simp only at g1 g2 g3 hf1 ⊢
    have hr1:=zfM (l:=k) (i:=i1)
    rw [hk] at hr1
    have hwi:=zp (i:=i1) (by omega)
    by_cases hij:i1≤j
    ·have hcmp:decide ((i1:Int)≤(j:Int))=true:=decide_eq_true (by omega)
     rw [if_pos (by omega)] at hr1
     obtain ⟨n1,rfl⟩:∃m,n1=m+1:=⟨n1 - 1,by omega⟩
     rw [upP] at hf1
     cases hlx:decide (k.getD i1 0<k.getD a 0) with
     |true=>
      rw [if_pos ⟨hij,of_decide_eq_true hlx⟩] at hf1
      refine' walkR (zad hcmp hkl hra hr1 hlx) (zb zj <| za _)
      all_goals first|omega|skip
      exact ⟨⟨(n1,i1+1),by simp only;omega,by simp only;omega,by simp only;omega,hf1⟩,lev,by simp⟩
     |false=>
      rw [if_neg (fun h=>of_decide_eq_false hlx h.2)] at hf1
      refine' walkR (zad hcmp hkl hra hr1 hlx) (zb zj <| za _)
      all_goals first|omega|(rw [hf1];done)
    ·have hcmp:decide ((i1:Int)≤(j:Int))=false:=decide_eq_false (by omega)
     rw [zmp (by omega)] at hf1
     by_cases hN1:i1<N
     ·rw [if_pos hN1] at hr1
      refine' walkR (z7 hcmp hkl hra hr1) (zb zj <| za _)
      all_goals first|omega|(rw [hf1];done)
     ·rw [if_neg hN1] at hr1
      refine' walkR (zad hcmp hkl hra hr1 @zhJ) (zb zeQ <| za _)
      all_goals first|omega|(rw [hf1];done)
   obtain ⟨d,hd⟩:∃d,d=dnP a k N u j:=⟨_,rfl⟩
   have hdr:=zcP a k N u j
   rw [← hd] at hdr
   refine' zi fx
   refine (fun hJ=>?_) (zdh (s1:=⟨[(0,true,.osl 5 1 N 0 N),(1,true,.d (.int .i64 a)),(10,true,.d (.int .i64 u)),(11,true,.d (.int .i64 d))],[(5,.arr 1 (k.map ckD))],some []⟩) hK ?_)
   ·clear hK
    have hK:=hJ
    clear hJ
    refine zt (fun q: { q:Nat×Nat // q.2≤j∧a≤q.2∧(u≤q.2+1∨q.2=j)∧q.2+1≤q.1+u∧d=dnP a k q.1 u q.2 } =>⟨[(0,true,.osl 5 1 N 0 N),(1,true,.d (.int .i64 a)),(10,true,.d (.int .i64 u)),(11,true,.d (.int .i64 q.1.2))],[(5,.arr 1 (k.map ckD))],some []⟩) (fun q=>q.1.1) ⟨(N,j),Nat.le_refl _,by simp only;omega,.inr rfl,by simp only;omega,hd⟩ le1 (fun q=>?_)
    obtain ⟨⟨n1,j1⟩,g1,g2,g3,g4,hf1⟩:=q
    simp only at g1 g2 g3 g4 hf1 ⊢
    have hr1:=ck_at (l:=k) (i:=j1) (by omega)
    by_cases hij:u≤j1
    ·have hwi:IntKind.i64.wrap ((j1:Int) - 1)=((j1 - 1:Nat):Int):=by rw [zf (by omega) (by omega)];omega
     have hcmp:decide ((u:Int)≤(j1:Int))=true:=decide_eq_true (by omega)
     obtain ⟨n1,rfl⟩:∃m,n1=m+1:=⟨n1 - 1,by omega⟩
     rw [dnP] at hf1
     cases hlx:decide (k.getD j1 0<k.getD a 0) with
     |false=>
      rw [if_pos ⟨hij,of_decide_eq_false hlx⟩] at hf1
      refine' walkR (zad hcmp hkl hra hr1 hlx) (zb zj <| za _)
      all_goals first|omega|skip
      exact ⟨⟨(n1,j1 - 1),by simp only;omega,by simp only;omega,by simp only;omega,by simp only;omega,hf1⟩,lev,by simp⟩
     |true=>
      rw [if_neg (fun h=>h.2 (of_decide_eq_true hlx))] at hf1
      refine' walkR (zad hcmp hkl hra hr1 hlx) (zb zj <| za _)
      all_goals first|omega|(rw [hf1];done)
    ·have hcmp:decide ((u:Int)≤(j1:Int))=false:=decide_eq_false (by omega)
     rw [zgC (by omega)] at hf1
     refine' walkR (z7 hcmp hkl hra hr1) (zb zj <| za _)
     all_goals first|omega|(rw [hf1];done)
   have hr1:=ck_at (l:=k) (i:=d) (by omega)
   by_cases hud:d<u
   ·have hcmp:decide ((d:Int)<(u:Int))=true:=decide_eq_true (by omega)
    have hPu:R=(d,k):=by
     rw [hf]
     cases n with
     |zero=>rw [ppt,hd,zgC (by omega)]
     |succ n=>rw [ppt,hk,← hu,← hd,if_pos hud]
    refine' zi hcmp
    all_goals first|omega|(rw [hPu];done)
   ·have hcmp:decide ((d:Int)<(u:Int))=false:=decide_eq_false (by omega)
    obtain ⟨n,rfl⟩:∃m,n=m+1:=⟨n - 1,by omega⟩
    rw [ppt,hk,← hu,← hd,if_neg hud] at hf
    have hr0:=ck_at (l:=k) (i:=u) (by omega)
    have hr3:=zbg (l:=k) (i:=u) (j:=d) (by omega)
    have hsl:((k.map ckD).set u [.int .u64 (k.getD d 0)]).length=N:=by rw [List.length_set,hkl]
    have hsw:=zbf (l:=k) (i:=u) (j:=d)
    have hwu:=zp (i:=u) (by omega)
    have hwd:IntKind.i64.wrap ((d:Int) - 1)=((d - 1:Nat):Int):=by rw [zf (by omega) (by omega)];omega
    refine' zi (zA hcmp hkl hr0 hr1 hr3 (zu hsl hsw))
    all_goals first|omega|skip
    exact ⟨⟨(n,u+1,d - 1,swp k u d),by simp only [zC,hk],by simp only;omega,by simp only;omega,by simp only;omega,by simp only;omega,by simp only;omega,by simp only;omega,hf⟩,by simp only [AS.le,leT,leH,zh,AsgK,AV.le,AV.leL,AObj.le,inH,idsT,idsH,AV.ids,AV.idsL,AV.idsR,AObj.ids,lk,hget,go_sem,aeq,aeq.aeqF,simprocAttr,hwu,hwd]<;>and_intros<;>rfl,by simp⟩
  clear hkl hra hr0 hr1 hr3 hsl hsw
  have hkl:(R.2.map ckD).length=N:=by rw [zaq,hRr.2.2]
  have hra:=ck_at (l:=R.2) (i:=a) (by omega)
  have hr1:=ck_at (l:=R.2) (i:=R.1) (by omega)
  have hr3:=zbg (l:=R.2) (i:=R.1) (j:=a) (by omega)
  have hsl:((R.2.map ckD).set R.1 [.int .u64 (R.2.getD a 0)]).length=N:=by rw [List.length_set,hkl]
  have hsw:=zbf (l:=R.2) (i:=R.1) (j:=a)
  refine' zi (zA hkl hra hr1 hr3 hsl hsw)
  all_goals first|omega|(rw [hP];done)
open Go
theorem a_get (l:List Int) (i:Nat):l.toArray[i]! =l.getD i 0:=by
 simp [List.getD_eq_getElem?_getD,getElem!_def]
 cases l[i]?<;>rfl
theorem a_swp (l:List Int) (i j:Nat):Sort.swp l.toArray i j=(swp l i j).toArray:=by
 rw [Sort.swp,a_get,a_get,List.setIfInBounds_toArray,List.setIfInBounds_toArray]
 rfl
theorem zeU {x y:Int} (h:x<y):Sort.ltInt x y=true:=decide_eq_true h
theorem zd3 {x y:Int} (h:¬x<y):Sort.ltInt x y=false:=decide_eq_false h
theorem zoT (a:Nat):∀ (j:Nat) (l:List Int),Sort.insInner Sort.ltInt a j l.toArray=(insI a j l).toArray
 |0,l=>rfl
 | j+1,l=>by
  rw [Sort.insInner,insI,a_get,a_get]
  by_cases h:a<j+1∧l.getD (j+1) 0<l.getD j 0
  ·rw [if_pos h,if_pos (by rw [zeU h.2];simpa using h.1),a_swp,zoT]
  ·rw [if_neg h,if_neg]
   simpa [Sort.ltInt] using h
theorem zoU (a b:Nat):∀ (n i:Nat) (l:List Int),b - i=n→Sort.insOuter Sort.ltInt a b i l.toArray=(insO a n i l).toArray
 |0,i,l,h=>by rw [Sort.insOuter,if_neg (by omega)];rfl
 |n+1,i,l,h=>by rw [Sort.insOuter,if_pos (by omega),zoT,zoU a b n (i+1) _ (by omega)];rfl
theorem zqw (a b:Nat) (l:List Int):Sort.insertionSort Sort.ltInt l.toArray a b=(insS a b l).toArray:=zoU a b _ _ l rfl
theorem zjH (hi first:Nat):∀ (n r:Nat) (l:List Int),hi - r≤n→Sort.siftDown Sort.ltInt hi first r l.toArray=(siftL hi first n r l).toArray
 |0,r,l,h=>by rw [Sort.siftDown,dif_pos (by omega)];rfl
 | n+1,r,l,h=>by
  rw [Sort.siftDown,siftL]
  by_cases h1:hi≤2*r+1
  ·rw [dif_pos h1,if_pos h1]
  rw [dif_neg h1,if_neg h1]
  simp only [a_get]
  by_cases h2:2*r+1+1<hi∧l.getD (first+(2*r+1)) 0<l.getD (first+(2*r+1)+1) 0
  ·have hk:kidL hi first (2*r+1) l=2*r+2:=if_pos h2
   rw [if_pos (by simpa [Sort.ltInt] using h2),hk]
   by_cases h3:l.getD (first+r) 0<l.getD (first+(2*r+2)) 0
   ·rw [if_pos h3,if_neg (by rw [zeU h3];decide),dif_pos (by omega),a_swp,zjH hi first n _ _ (by omega)]
   ·rw [if_neg h3,if_pos (by rw [zd3 h3];decide)]
  ·have hk:kidL hi first (2*r+1) l=2*r+1:=if_neg h2
   rw [if_neg (by simpa [Sort.ltInt] using h2),hk]
   by_cases h3:l.getD (first+r) 0<l.getD (first+(2*r+1)) 0
   ·rw [if_pos h3,if_neg (by rw [zeU h3];decide),a_swp,zjH hi first n _ _ (by omega)]
   ·rw [if_neg h3,if_pos (by rw [zd3 h3];decide)]
theorem a_hpA (hi first:Nat):∀ (n:Nat) (l:List Int),Sort.heapBuild Sort.ltInt hi first n l.toArray=(hpA hi first n l).toArray
 |0,l=>rfl
 |n+1,l=>by rw [Sort.heapBuild,hpA,zjH hi first hi n l (by omega),a_hpA]
theorem a_hpB (first:Nat):∀ (n:Nat) (l:List Int),Sort.heapPop Sort.ltInt first n l.toArray=(hpB first n l).toArray
 |0,l=>rfl
 |n+1,l=>by rw [Sort.heapPop,hpB,a_swp,zjH n first n 0 _ (by omega),a_hpB]
theorem zqx (a b:Nat) (l:List Int):Sort.heapSort Sort.ltInt l.toArray a b=(heapL a b l).toArray:=by
 rw [Sort.heapSort,a_hpA,a_hpB]
 rfl
theorem a_rev:∀ (n i j:Nat) (l:List Int),j - i≤n→Sort.reverseLoop i j l.toArray=(revL n i j l).toArray
 |0,i,j,l,h=>by rw [Sort.reverseLoop,if_neg (by omega)];rfl
 |n+1,i,j,l,h=>by
  rw [Sort.reverseLoop,revL]
  by_cases h1:i<j
  ·rw [if_pos h1,if_pos h1,a_swp,a_rev n _ _ _ (by omega)]
  ·rw [if_neg h1,if_neg h1]
theorem a_upE (a:Nat) (l:List Int):∀ (n i j:Nat),j+1 - i≤n→Sort.scanUp (fun x=> !Sort.ltInt (l.getD a 0) x) l.toArray j i=upE a l n i j
 |0,i,j,h=>by rw [Sort.scanUp,if_neg (by simp;omega)];rfl
 |n+1,i,j,h=>by
  rw [Sort.scanUp,upE]
  simp only [a_get]
  by_cases h1:i≤j∧¬l.getD a 0<l.getD i 0
  ·rw [if_pos h1,if_pos (by rw [zd3 h1.2];simpa using h1.1),a_upE a l n _ _ (by omega)]
  ·rw [if_neg h1,if_neg (by simpa [Sort.ltInt] using h1)]
theorem zjI (a:Nat) (l:List Int) (i:Nat):∀n,dnE a l n i 0=0
 |0=>rfl
 |n+1=>by
  rw [dnE]
  split
  ·exact zjI a l i n
  ·rfl
theorem a_dnE (a:Nat) (l:List Int) (i:Nat):∀ (n j:Nat),j≤n→Sort.scanDown (fun x=>Sort.ltInt (l.getD a 0) x) l.toArray i j=dnE a l n i j
 |n,0,h=>by rw [zjI];rfl
 |0,j+1,h=>by omega
 | n+1,j+1,h=>by
  rw [Sort.scanDown,dnE]
  simp only [a_get]
  by_cases h1:i≤j+1∧l.getD a 0<l.getD (j+1) 0
  ·rw [if_pos h1,if_pos (by rw [zeU h1.2];simpa using h1.1),a_dnE a l i n j (by omega)]
   rfl
  ·rw [if_neg h1,if_neg (by simpa [Sort.ltInt] using h1)]
theorem a_upP (a:Nat) (l:List Int):∀ (n i j:Nat),j+1 - i≤n→Sort.scanUp (fun x=>Sort.ltInt x (l.getD a 0)) l.toArray j i=upP a l n i j
 |0,i,j,h=>by rw [Sort.scanUp,if_neg (by simp;omega)];rfl
 |n+1,i,j,h=>by
  rw [Sort.scanUp,upP]
  simp only [a_get]
  by_cases h1:i≤j∧l.getD i 0<l.getD a 0
  ·rw [if_pos h1,if_pos (by rw [zeU h1.2];simpa using h1.1),a_upP a l n _ _ (by omega)]
  ·rw [if_neg h1,if_neg (by simpa [Sort.ltInt] using h1)]
theorem zjJ (a:Nat) (l:List Int) (i:Nat):∀n,dnP a l n i 0=0
 |0=>rfl
 |n+1=>by
  rw [dnP]
  split
  ·exact zjJ a l i n
  ·rfl
theorem a_dnP (a:Nat) (l:List Int) (i:Nat):∀ (n j:Nat),j≤n→Sort.scanDown (fun x=> !Sort.ltInt x (l.getD a 0)) l.toArray i j=dnP a l n i j
 |n,0,h=>by rw [zjJ];rfl
 |0,j+1,h=>by omega
 | n+1,j+1,h=>by
  rw [Sort.scanDown,dnP]
  simp only [a_get]
  by_cases h1:i≤j+1∧¬l.getD (j+1) 0<l.getD a 0
  ·rw [if_pos h1,if_pos (by rw [zd3 h1.2];simpa using h1.1),a_dnP a l i n j (by omega)]
   rfl
  ·rw [if_neg h1,if_neg (by simpa [Sort.ltInt] using h1)]
theorem a_peq (a:Nat):∀ (n i j:Nat) (l:List Int),j+1 - i≤n→j<l.length→Sort.partEqLoop Sort.ltInt a i j l.toArray=((peq a n i j l).1,(peq a n i j l).2.toArray)
 |0,i,j,l,h,hj=>by
  have h1:Sort.scanUp (fun x=> !Sort.ltInt (l.getD a 0) x) l.toArray j i=i:=by rw [Sort.scanUp,if_neg (by simp;omega)]
  rw [Sort.partEqLoop_eq]
  simp only [a_get]
  rw [h1,a_dnE a l i l.length j (by omega),zmm (by omega),if_pos (by omega)]
  rfl
 |n+1,i,j,l,h,hj=>by
  have g1:=zgA a l l.length i j
  have g2:=zgB a l l.length (upE a l l.length i j) j
  rw [Sort.partEqLoop_eq,peq]
  simp only [a_get]
  rw [a_upE a l l.length i j (by omega),a_dnE a l _ l.length j (by omega)]
  by_cases h1:dnE a l l.length (upE a l l.length i j) j<upE a l l.length i j
  ·rw [if_pos h1,if_pos h1]
  ·rw [if_neg h1,if_neg h1,a_swp,a_peq a n _ _ _ (by omega) (by rw [zC];omega)]
theorem zqy (a b p:Nat) (l:List Int) (h:a<b) (hb:b≤l.length):Sort.partitionEqual Sort.ltInt l.toArray a b p=((peqS a b p l).1,(peqS a b p l).2.toArray):=by
 rw [Sort.partitionEqual,a_swp]
 exact a_peq a l.length (a+1) (b - 1) _ (by omega) (by rw [zC];omega)
theorem a_ppt (a:Nat):∀ (n i j:Nat) (l:List Int),j+1 - i≤n→j<l.length→Sort.partLoop Sort.ltInt a i j l.toArray=((ppt a n i j l).1,(ppt a n i j l).2.toArray)
 |0,i,j,l,h,hj=>by
  have h1:Sort.scanUp (fun x=>Sort.ltInt x (l.getD a 0)) l.toArray j i=i:=by rw [Sort.scanUp,if_neg (by simp;omega)]
  rw [Sort.partLoop_eq]
  simp only [a_get]
  rw [h1,a_dnP a l i l.length j (by omega),zgC (by omega),if_pos (by omega)]
  rfl
 |n+1,i,j,l,h,hj=>by
  have g1:=zcO a l l.length i j
  have g2:=zcP a l l.length (upP a l l.length i j) j
  rw [Sort.partLoop_eq,ppt]
  simp only [a_get]
  rw [a_upP a l l.length i j (by omega),a_dnP a l _ l.length j (by omega)]
  by_cases h1:dnP a l l.length (upP a l l.length i j) j<upP a l l.length i j
  ·rw [if_pos h1,if_pos h1]
  ·rw [if_neg h1,if_neg h1,a_swp,a_ppt a n _ _ _ (by omega) (by rw [zC];omega)]
theorem zqz (a b p:Nat) (l:List Int) (h:a<b) (hb:b≤l.length):Sort.partition Sort.ltInt l.toArray a b p=((prtS a b p l).1.1,(prtS a b p l).1.2,(prtS a b p l).2.toArray):=by
 have hl:=zC l a p
 obtain ⟨m,hm⟩:∃m,m=swp l a p:=⟨_,rfl⟩
 rw [← hm] at hl
 rw [Sort.partition,a_swp,prtS,← hm]
 simp only [a_get]
 rw [← hl,a_upP a m m.length (a+1) (b - 1) (by omega),a_dnP a m _ m.length (b - 1) (by omega)]
 have g1:=zcO a m m.length (a+1) (b - 1)
 have g2:=zcP a m m.length (upP a m m.length (a+1) (b - 1)) (b - 1)
 unfold prtK
 by_cases h1:dnP a m m.length (upP a m m.length (a+1) (b - 1)) (b - 1)<upP a m m.length (a+1) (b - 1)
 ·rw [if_pos h1,if_pos h1,a_swp]
 ·rw [if_neg h1,if_neg h1,a_swp,a_ppt a m.length _ _ _ (by omega) (by rw [zC];omega)]
  simp only [a_swp]
theorem a_upI (b:Nat) (l:List Int):∀ (n i:Nat),b - i≤n→Sort.scanSorted Sort.ltInt l.toArray b i=upI b l n i
 |0,i,h=>by rw [Sort.scanSorted,if_neg (by simp;omega)];rfl
 |n+1,i,h=>by
  rw [Sort.scanSorted,upI]
  simp only [a_get]
  by_cases h1:i<b∧¬l.getD i 0<l.getD (i - 1) 0
  ·rw [if_pos h1,if_pos (by rw [zd3 h1.2];simpa using h1.1),a_upI b l n _ (by omega)]
  ·rw [if_neg h1,if_neg (by simpa [Sort.ltInt] using h1)]
theorem a_bk:∀ (j:Nat) (l:List Int),Sort.shiftDown Sort.ltInt j l.toArray=(insI 0 j l).toArray
 |0,l=>rfl
 |j+1,l=>by
  rw [Sort.shiftDown,insI,a_get,a_get]
  by_cases h:l.getD (j+1) 0<l.getD j 0
  ·rw [if_neg (by rw [zeU h];decide),if_pos ⟨by omega,h⟩,a_swp,a_bk]
  ·rw [if_pos (by rw [zd3 h];decide),if_neg (fun e=>h e.2)]
theorem a_fw (b:Nat):∀ (n j:Nat) (l:List Int),b - j≤n→Sort.shiftUp Sort.ltInt b j l.toArray=(fwI b n j l).toArray
 |0,j,l,h=>by rw [Sort.shiftUp,if_neg (by omega)];rfl
 | n+1,j,l,h=>by
  rw [Sort.shiftUp,fwI,a_get,a_get]
  by_cases h1:j<b
  ·rw [if_pos h1]
   by_cases h2:l.getD j 0<l.getD (j - 1) 0
   ·rw [if_neg (by rw [zeU h2];decide),if_pos ⟨h1,h2⟩,a_swp,a_fw b n _ _ (by omega)]
   ·rw [if_pos (by rw [zd3 h2];decide),if_neg (fun e=>h2 e.2)]
  ·rw [if_neg h1,if_neg (fun e=>h1 e.1)]
theorem a_pis (a b:Nat):∀ (n i:Nat) (l:List Int),b≤l.length→Sort.partialIns Sort.ltInt a b n i l.toArray=((pis a b n i l).2.toArray,(pis a b n i l).1)
 |0,i,l,h=>rfl
 | n+1,i,l,h=>by
  rw [Sort.partialIns_succ,pis,a_upI b l l.length i (by omega)]
  by_cases h1:upI b l l.length i=b
  ·rw [if_pos h1,if_pos h1]
  rw [if_neg h1,if_neg h1]
  by_cases h2:b - a<50
  ·rw [if_pos h2,if_pos h2]
  rw [if_neg h2,if_neg h2,a_swp]
  have e1:∀u (m:List Int),Sort.fixDown Sort.ltInt a u m.toArray=(pisA a u m).toArray:=fun u m=>by
   unfold Sort.fixDown pisA
   by_cases h3:2≤u - a
   ·rw [if_pos h3,if_pos h3,a_bk]
   ·rw [if_neg h3,if_neg h3]
  have e2:∀u (m:List Int),b≤m.length→Sort.fixUp Sort.ltInt b u m.toArray=(pisB b u m).toArray:=fun u m hm=>by
   unfold Sort.fixUp pisB
   by_cases h3:2≤b - u
   ·rw [if_pos h3,if_pos h3,a_fw b m.length _ _ (by omega)]
   ·rw [if_neg h3,if_neg h3]
  rw [e1,e2 _ _ (by rw [zeh,zC];exact h),a_pis a b n _ _ (by rw [zgD,zeh,zC];exact h)]
theorem zqA (a b:Nat) (l:List Int) (h:b≤l.length):Sort.partialInsertionSort Sort.ltInt l.toArray a b=((pisS a b l).2.toArray,(pisS a b l).1):=a_pis a b 5 (a+1) l h
end Go.Aw
