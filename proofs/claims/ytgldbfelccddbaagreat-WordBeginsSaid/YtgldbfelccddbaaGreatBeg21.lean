/-
 Sorting numbers: those that are as the pivot are put aside.
-/
import Derived.Test.YtgldbfelccddbaaGreatBeg13
import Derived.Test.YtgldbfelccddbaaGreatBeg15
set_option maxRecDepth 100000
set_option maxHeartbeats 2000000
set_option linter.unusedSimpArgs false
set_option linter.unusedVariables false
namespace Go.Aw
open Go Go.Proofs
def upE (a:Nat) (l:List Int):Nat→Nat→Nat→Nat
 |0,i,_=>i
 |n+1,i,j=>if i≤j∧¬l.getD a 0<l.getD i 0 then upE a l n (i+1) j else i
def dnE (a:Nat) (l:List Int):Nat→Nat→Nat→Nat
 |0,_,j=>j
 |n+1,i,j=>if i≤j∧l.getD a 0<l.getD j 0 then dnE a l n i (j - 1) else j
theorem zgA (a:Nat) (l:List Int):∀ (n i j:Nat),i≤upE a l n i j∧(upE a l n i j≤j+1∨upE a l n i j=i)
 |0,i,j=>⟨Nat.le_refl _,.inr rfl⟩
 |n+1,i,j=>by
  rw [upE]
  split
  ·have:=zgA a l n (i+1) j;omega
  ·omega
theorem zgB (a:Nat) (l:List Int):∀ (n i j:Nat),dnE a l n i j≤j∧(i≤dnE a l n i j+1∨dnE a l n i j=j)
 |0,i,j=>⟨Nat.le_refl _,.inr rfl⟩
 |n+1,i,j=>by
  rw [dnE]
  split
  ·have:=zgB a l n i (j - 1);omega
  ·omega
theorem zml {a:Nat} {l:List Int} {n i j:Nat} (h:j<i):upE a l n i j=i:=by
 cases n with
 |zero=>rfl
 |succ n=>rw [upE,if_neg (by omega)]
theorem zmm {a:Nat} {l:List Int} {n i j:Nat} (h:j<i):dnE a l n i j=j:=by
 cases n with
 |zero=>rfl
 |succ n=>rw [dnE,if_neg (by omega)]
def peq (a:Nat):Nat→Nat→Nat→List Int→Nat×List Int
 |0,i,_,l=>(i,l)
 |n+1,i,j,l=>
  if dnE a l l.length (upE a l l.length i j) j<upE a l l.length i j then (upE a l l.length i j,l)
  else peq a n (upE a l l.length i j+1) (dnE a l l.length (upE a l l.length i j) j - 1) (swp l (upE a l l.length i j) (dnE a l l.length (upE a l l.length i j) j))
theorem zmn (a b:Nat):∀ (n i j:Nat) (l:List Int),a<i→i≤b→a≤j→j<b→i≤j+2→a<(peq a n i j l).1∧(peq a n i j l).1≤b∧(peq a n i j l).2.length=l.length
 |0,i,j,l,h1,h2,h3,h4,h5=>⟨h1,h2,rfl⟩
 | n+1,i,j,l,h1,h2,h3,h4,h5=>by
  rw [peq]
  have g1:=zgA a l l.length i j
  have g2:=zgB a l l.length (upE a l l.length i j) j
  split
  ·exact ⟨by simp only;omega,by simp only;omega,rfl⟩
  ·have:=zmn a b n (upE a l l.length i j+1) (dnE a l l.length (upE a l l.length i j) j - 1) (swp l (upE a l l.length i j) (dnE a l l.length (upE a l l.length i j) j)) (by omega) (by omega) (by omega) (by omega) (by omega)
   rw [zC] at this
   exact this
def peqS (a b p:Nat) (l:List Int):Nat×List Int:=peq a l.length (a+1) (b - 1) (swp l a p)
theorem zjE {a b p:Nat} {l:List Int} (h:a<b):a<(peqS a b p l).1∧(peqS a b p l).1≤b∧(peqS a b p l).2.length=l.length:=by
 have:=zmn a b l.length (a+1) (b - 1) (swp l a p) (by omega) (by omega) (by omega) (by omega) (by omega)
 rw [zC] at this
 exact this
theorem zfM {l:List Int} {i:Nat} :(l.map ckD).getD i []=if i<l.length then [.int .u64 (l.getD i 0)] else []:=by
 split
 ·rename_i h;exact ck_at h
 ·rename_i h;rw [List.getD_eq_getElem?_getD,List.getElem?_eq_none (by rw [zaq];omega)];rfl
theorem zdh {cx:Cx} {y:Code} {Q:Exit→AS→Prop} {K:AS→Prop} {s1:AS} (hK:∀s',AW cx y Q s'→K s') (h2:AW cx y Q s1):∀s',s'.le s1→K s':=fun s' h=>hK s' (aw_le s1 h h2)
theorem zmo (l:List Int) (N a b p:Nat) (hN:l.length=N) (ha:a≤p) (hp:p<b) (hb:b≤N) (hl:N≤1000):ACall Tryz.prog 212 60 [.osl 5 1 N 0 N,.d (.int .i64 a),.d (.int .i64 b),.d (.int .i64 p)] [(5,.arr 1 (l.map ckD))] (fun r h'=>r= .d (.int .i64 (peqS a b p l).1)∧h'= [(5,.arr 1 ((peqS a b p l).2.map ckD))]):=by
 obtain ⟨P,hP⟩:∃P,P=peqS a b p l:=⟨_,rfl⟩
 rw [← hP]
 rw [peqS,hN] at hP
 have hkl:(l.map ckD).length=N:=by rw [zaq,hN]
 have hr1:=ck_at (l:=l) (i:=a) (by omega)
 have hr2:=ck_at (l:=l) (i:=p) (by omega)
 have hr3:=zbg (l:=l) (i:=a) (j:=p) (by omega)
 have hsl:((l.map ckD).set a [.int .u64 (l.getD p 0)]).length=N:=by rw [List.length_set,hkl]
 have hsw:=zbf (l:=l) (i:=a) (j:=p)
 have hwa:=zp (i:=a) (by omega)
 have hwb:IntKind.i64.wrap ((b:Int) - 1)=((b - 1:Nat):Int):=by rw [zf (by omega) (by omega)];omega
 refine bod Tryz.func212 Tryz.ntmps212 (fun base=>?_)
 refine' zi (zA hkl hr1 hr2 hr3 hsl (zF hsw hwa hwb))
 all_goals first|omega|skip
 refine zt (fun q: { q:Nat×Nat×Nat×List Int // q.2.2.2.length=N∧a<q.2.1∧q.2.1≤b∧a≤q.2.2.1∧q.2.2.1<b∧q.2.1≤q.2.2.1+2∧q.2.2.1+1≤q.1+q.2.1∧P=peq a q.1 q.2.1 q.2.2.1 q.2.2.2 } =>⟨[(0,true,.osl 5 1 N 0 N),(1,true,.d (.int .i64 a)),(9,true,.d (.int .i64 q.1.2.1)),(10,true,.d (.int .i64 q.1.2.2.1))],[(5,.arr 1 (q.1.2.2.2.map ckD))],some []⟩) (fun q=>q.1.1) ⟨(N,a+1,b - 1,swp l a p),by rw [zC,hN],by simp only;omega,by simp only;omega,by simp only;omega,by simp only;omega,by simp only;omega,by simp only;omega,hP⟩ le1 (fun q=>?_)
 obtain ⟨⟨n,i,j,k⟩,hk,h1,h2,h3,h4,h5,h6,hf⟩:=q
 simp only at hk h1 h2 h3 h4 h5 h6 hf ⊢
 have hkl:(k.map ckD).length=N:=by rw [zaq,hk]
 have hra:=ck_at (l:=k) (i:=a) (by omega)
 obtain ⟨u,hu⟩:∃u,u=upE a k N i j:=⟨_,rfl⟩
 have hur:=zgA a k N i j
 rw [← hu] at hur
 refine' zi fx
 refine (fun hJ=>?_) (zdh (s1:=⟨[(0,true,.osl 5 1 N 0 N),(1,true,.d (.int .i64 a)),(9,true,.d (.int .i64 u)),(10,true,.d (.int .i64 j))],[(5,.arr 1 (k.map ckD))],some []⟩) hK ?_)
 ·clear hK
  have hK:=hJ
  clear hJ
  refine zt (fun q: { q:Nat×Nat // i≤q.2∧(q.2≤j+1∨q.2=i)∧j+1≤q.1+q.2∧u=upE a k q.1 q.2 j } =>⟨[(0,true,.osl 5 1 N 0 N),(1,true,.d (.int .i64 a)),(9,true,.d (.int .i64 q.1.2)),(10,true,.d (.int .i64 j))],[(5,.arr 1 (k.map ckD))],some []⟩) (fun q=>q.1.1) ⟨(N,i),Nat.le_refl _,.inr rfl,by simp only;omega,hu⟩ le1 (fun q=>?_)
  obtain ⟨⟨n1,i1⟩,g1,g2,g3,hf1⟩:=q
  simp only at g1 g2 g3 hf1 ⊢
  have hr1:=zfM (l:=k) (i:=i1)
  rw [hk] at hr1
  have hwi:=zp (i:=i1) (by omega)
  by_cases hij:i1≤j
  ·have hcmp:decide ((i1:Int)≤(j:Int))=true:=decide_eq_true (by omega)
   rw [if_pos (by omega)] at hr1
   obtain ⟨n1,rfl⟩:∃m,n1=m+1:=⟨n1 - 1,by omega⟩
   rw [upE] at hf1
   cases hlx:decide (k.getD a 0<k.getD i1 0) with
   |false=>
    rw [if_pos ⟨hij,of_decide_eq_false hlx⟩] at hf1
    refine' walkR (zad hcmp hkl hra hr1 hlx) (zb zj <| za _)
    all_goals first|omega|skip
    exact ⟨⟨(n1,i1+1),by simp only;omega,by simp only;omega,by simp only;omega,hf1⟩,lev,by simp⟩
   |true=>
    rw [if_neg (fun h=>h.2 (of_decide_eq_true hlx))] at hf1
    refine' walkR (zad hcmp hkl hra hr1 hlx) (zb zj <| za _)
    all_goals first|omega|(rw [hf1];done)
  ·have hcmp:decide ((i1:Int)≤(j:Int))=false:=decide_eq_false (by omega)
   rw [zml (by omega)] at hf1
   by_cases hN1:i1<N
   ·rw [if_pos hN1] at hr1
    refine' walkR (z7 hcmp hkl hra hr1) (zb zj <| za _)
    all_goals first|omega|(rw [hf1];done)
   ·rw [if_neg hN1] at hr1
    refine' walkR (zad hcmp hkl hra hr1 @zhJ) (zb zeQ <| za _)
    all_goals first|omega|(rw [hf1];done)
 obtain ⟨d,hd⟩:∃d,d=dnE a k N u j:=⟨_,rfl⟩
 have hdr:=zgB a k N u j
 rw [← hd] at hdr
 refine' zi fx
 refine (fun hJ=>?_) (zdh (s1:=⟨[(0,true,.osl 5 1 N 0 N),(1,true,.d (.int .i64 a)),(9,true,.d (.int .i64 u)),(10,true,.d (.int .i64 d))],[(5,.arr 1 (k.map ckD))],some []⟩) hK ?_)
 ·clear hK
  have hK:=hJ
  clear hJ
  refine zt (fun q: { q:Nat×Nat // q.2≤j∧a≤q.2∧(u≤q.2+1∨q.2=j)∧q.2+1≤q.1+u∧d=dnE a k q.1 u q.2 } =>⟨[(0,true,.osl 5 1 N 0 N),(1,true,.d (.int .i64 a)),(9,true,.d (.int .i64 u)),(10,true,.d (.int .i64 q.1.2))],[(5,.arr 1 (k.map ckD))],some []⟩) (fun q=>q.1.1) ⟨(N,j),Nat.le_refl _,by simp only;omega,.inr rfl,by simp only;omega,hd⟩ le1 (fun q=>?_)
  obtain ⟨⟨n1,j1⟩,g1,g2,g3,g4,hf1⟩:=q
  simp only at g1 g2 g3 g4 hf1 ⊢
  have hr1:=ck_at (l:=k) (i:=j1) (by omega)
  have hr0:=zfM (l:=k) (i:=u)
  rw [hk] at hr0
  by_cases hij:u≤j1
  ·have hwi:IntKind.i64.wrap ((j1:Int) - 1)=((j1 - 1:Nat):Int):=by rw [zf (by omega) (by omega)];omega
   have hcmp:decide ((u:Int)≤(j1:Int))=true:=decide_eq_true (by omega)
   obtain ⟨n1,rfl⟩:∃m,n1=m+1:=⟨n1 - 1,by omega⟩
   rw [dnE] at hf1
   cases hlx:decide (k.getD a 0<k.getD j1 0) with
   |true=>
    rw [if_pos ⟨hij,of_decide_eq_true hlx⟩] at hf1
    refine' walkR (zad hcmp hkl hra hr1 hlx) (zb zj <| za _)
    all_goals first|omega|skip
    exact ⟨⟨(n1,j1 - 1),by simp only;omega,by simp only;omega,by simp only;omega,by simp only;omega,hf1⟩,lev,by simp⟩
   |false=>
    rw [if_neg (fun h=>of_decide_eq_false hlx h.2)] at hf1
    refine' walkR (zad hcmp hkl hra hr1 hlx) (zb zj <| za _)
    all_goals first|omega|(rw [hf1];done)
  ·have hcmp:decide ((u:Int)≤(j1:Int))=false:=decide_eq_false (by omega)
   rw [zmm (by omega)] at hf1
   refine' walkR (z7 hcmp hkl hra hr1) (zb zj <| za _)
   all_goals first|omega|(rw [hf1];done)
 by_cases hud:d<u
 ·have hcmp:decide ((d:Int)<(u:Int))=true:=decide_eq_true (by omega)
  have hPu:P=(u,k):=by
   rw [hf]
   cases n with
   |zero=>rw [peq,hu,zml (by omega)]
   |succ n=>rw [peq,hk,← hu,← hd,if_pos hud]
  refine' zi hcmp
  all_goals first|omega|(rw [hPu];done)
 ·have hcmp:decide ((d:Int)<(u:Int))=false:=decide_eq_false (by omega)
  obtain ⟨n,rfl⟩:∃m,n=m+1:=⟨n - 1,by omega⟩
  rw [peq,hk,← hu,← hd,if_neg hud] at hf
  have hr0:=ck_at (l:=k) (i:=u) (by omega)
  have hr1:=ck_at (l:=k) (i:=d) (by omega)
  have hr3:=zbg (l:=k) (i:=u) (j:=d) (by omega)
  have hsl:((k.map ckD).set u [.int .u64 (k.getD d 0)]).length=N:=by rw [List.length_set,hkl]
  have hsw:=zbf (l:=k) (i:=u) (j:=d)
  have hwu:=zp (i:=u) (by omega)
  have hwd:IntKind.i64.wrap ((d:Int) - 1)=((d - 1:Nat):Int):=by rw [zf (by omega) (by omega)];omega
  refine' zi (zA hcmp hkl hr0 hr1 hr3 (zu hsl hsw))
  all_goals first|omega|skip
  exact ⟨⟨(n,u+1,d - 1,swp k u d),by simp only [zC,hk],by simp only;omega,by simp only;omega,by simp only;omega,by simp only;omega,by simp only;omega,by simp only;omega,hf⟩,by simp only [AS.le,leT,leH,zh,AsgK,AV.le,AV.leL,AObj.le,inH,idsT,idsH,AV.ids,AV.idsL,AV.idsR,AObj.ids,lk,hget,go_sem,aeq,aeq.aeqF,simprocAttr,hwu,hwd]<;>and_intros<;>rfl,by simp⟩
end Go.Aw
