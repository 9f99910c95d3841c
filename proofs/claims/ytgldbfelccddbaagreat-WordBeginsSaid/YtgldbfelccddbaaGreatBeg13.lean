/-
 Sorting numbers: ranges turned round, heaps.
-/
import Derived.Test.YtgldbfelccddbaaGreatBeg10
set_option maxRecDepth 100000
set_option maxHeartbeats 2000000
set_option linter.unusedSimpArgs false
set_option linter.unusedVariables false
namespace Go.Aw
open Go Go.Proofs
def revL:Nat→Nat→Nat→List Int→List Int
 |0,_,_,l=>l
 |n+1,i,j,l=>if i<j then revL n (i+1) (j - 1) (swp l i j) else l
theorem zjA:∀ (n i j:Nat) (l:List Int),(revL n i j l).length=l.length
 |0,_,_,_=>rfl
 |n+1,i,j,l=>by
  rw [revL]
  split
  ·rw [zjA,zC]
  ·rfl
theorem zkE (l:List Int) (N a b:Nat) (hN:l.length=N) (ha:a<b) (hb:b≤N) (hl:N≤1000000):ACall Tryz.prog 209 60 [.osl 5 1 N 0 N,.d (.int .i64 a),.d (.int .i64 b)] [(5,.arr 1 (l.map ckD))] (fun r h'=>r= .tup []∧h'= [(5,.arr 1 ((revL b a (b - 1) l).map ckD))]):=by
 have hwa:IntKind.i64.wrap ((b:Int) - 1)=((b - 1:Nat):Int):=by rw [zf (by omega) (by omega)];omega
 refine bod Tryz.func209 Tryz.ntmps209 (fun base=>?_)
 refine' zi hwa
 refine zt (fun q: { q:Nat×Nat×Nat×List Int // q.2.2.2.length=N∧q.2.2.1<N∧q.2.2.1≤q.1+q.2.1∧revL b a (b - 1) l=revL q.1 q.2.1 q.2.2.1 q.2.2.2 } =>⟨[(0,true,.osl 5 1 N 0 N),(6,true,.d (.int .i64 q.1.2.1)),(7,true,.d (.int .i64 q.1.2.2.1))],[(5,.arr 1 (q.1.2.2.2.map ckD))],some []⟩) (fun q=>q.1.1) ⟨(b,a,b - 1,l),hN,by simp only;omega,by simp only;omega,rfl⟩ le1 (fun q=>?_)
 obtain ⟨⟨n,i,j,k⟩,hk,hj,hn,hf⟩:=q
 simp only at hk hj hn hf ⊢
 have hkl:(k.map ckD).length=N:=by rw [zaq,hk]
 rcases Nat.lt_or_ge i j with hlt|hge
 ·have hcmp:decide ((i:Int)<(j:Int))=true:=decide_eq_true (by omega)
  have hwi:=zp (i:=i) (by omega)
  have hwj:IntKind.i64.wrap ((j:Int) - 1)=((j - 1:Nat):Int):=by rw [zf (by omega) (by omega)];omega
  obtain ⟨n,rfl⟩:∃m,n=m+1:=⟨n - 1,by omega⟩
  rw [revL,if_pos hlt] at hf
  have hr1:=ck_at (l:=k) (i:=i) (by omega)
  have hr2:=ck_at (l:=k) (i:=j) (by omega)
  have hr3:=zhH (l:=k) (i:=i) (j:=j) (x:= [.int .u64 (k.getD j 0)]) (by omega) (by omega)
  have hsl:((k.map ckD).set i [.int .u64 (k.getD j 0)]).length=N:=by rw [List.length_set,hkl]
  have hsw:=zbf (l:=k) (i:=i) (j:=j)
  refine' zi (zA hcmp hkl hr1 hr2 hr3 (zu hsl hsw))
  all_goals first|omega|skip
  exact ⟨⟨(n,i+1,j - 1,swp k i j),by simp only [zC,hk],by simp only;omega,by simp only;omega,hf⟩,by simp only [AS.le,leT,leH,zh,AsgK,AV.le,AV.leL,AObj.le,inH,idsT,idsH,AV.ids,AV.idsL,AV.idsR,AObj.ids,lk,hget,go_sem,aeq,aeq.aeqF,simprocAttr,hwi,hwj],by simp⟩
 ·have hcmp:decide ((i:Int)<(j:Int))=false:=decide_eq_false (by omega)
  have hf:revL b a (b - 1) l=k:=by
   rw [hf]
   cases n with
   |zero=>rfl
   |succ n=>rw [revL,if_neg (by omega)]
  refine' zi hcmp
  rw [hf]
def kidL (hi first c:Nat) (l:List Int):Nat:=if c+1<hi∧l.getD (first+c) 0<l.getD (first+c+1) 0 then c+1 else c
def siftL (hi first:Nat):Nat→Nat→List Int→List Int
 |0,_,l=>l
 |n+1,r,l=>
  if hi≤2*r+1 then l
  else if l.getD (first+r) 0<l.getD (first+kidL hi first (2*r+1) l) 0 then siftL hi first n (kidL hi first (2*r+1) l) (swp l (first+r) (first+kidL hi first (2*r+1) l)) else l
theorem zcd (hi first:Nat):∀ (n root:Nat) (l:List Int),(siftL hi first n root l).length=l.length
 |0,_,_=>rfl
 |n+1,root,l=>by
  rw [siftL]
  split
  ·rfl
  split
  ·rw [zcd,zC]
  ·rfl
def lessE:List AV→Option (Prop×AV)
 | [.d (.int .u64 x),.d (.int .u64 y)]=>some (True,.d (.bool (decide (x<y))))
 |_=>some (False,.d (.bool false))
@[go_sem] noncomputable def zeQ:Ent Tryz.prog 211 where
 e:=lessE
 ok:=fun args pre r h hp=>by
  unfold lessE at h
  split at h
  ·cases h;exact ⟨rfl,zmf _ _⟩
  ·cases h;exact hp.elim
@[go_sem] theorem zqq (x y:Int):lessE [.d (.int .u64 x),.d (.int .u64 y)]=some (True,.d (.bool (decide (x<y)))):=rfl
@[go_sem] theorem zpY (y:Int):lessE [.any,.d (.int .u64 y)]=some (False,.d (.bool false)):=rfl
@[go_sem] theorem zqr (x:Int):lessE [.d (.int .u64 x),.any]=some (False,.d (.bool false)):=rfl
theorem zhJ:([]:List AV).getD 0 AV.any=AV.any:=rfl
@[go_sem] theorem frz_anyS (n:Nat) (h:AHeap):frz n h .any= .any:=by cases n<;>cases h<;>rfl
theorem zmg (l:List Int) (N lo hi first:Nat) (hN:l.length=N) (h1:first+hi≤N) (h2:first+lo<N) (hl:N≤1000000):ACall Tryz.prog 275 70 [.osl 5 1 N 0 N,.d (.int .i64 lo),.d (.int .i64 hi),.d (.int .i64 first)] [(5,.arr 1 (l.map ckD))] (fun r h'=>r= .tup []∧h'= [(5,.arr 1 ((siftL hi first hi lo l).map ckD))]):=by
 obtain ⟨L,hL⟩:∃L,L=siftL hi first hi lo l:=⟨_,rfl⟩
 rw [← hL]
 refine bod Tryz.func275 Tryz.ntmps275 (fun base=>?_)
 refine' zi fx
 refine zt (fun q: { q:Nat×Nat×List Int // q.2.2.length=N∧first+q.2.1<N∧hi≤q.1+q.2.1∧L=siftL hi first q.1 q.2.1 q.2.2 } =>⟨[(0,true,.osl 5 1 N 0 N),(2,true,.d (.int .i64 hi)),(3,true,.d (.int .i64 first)),(8,true,.d (.int .i64 q.1.2.1))],[(5,.arr 1 (q.1.2.2.map ckD))],some []⟩) (fun q=>q.1.1) ⟨(hi,lo,l),hN,by simp only;omega,by simp only;omega,hL⟩ le1 (fun q=>?_)
 obtain ⟨⟨n,r,k⟩,hk,hr,hn,hf⟩:=q
 simp only at hk hr hn hf ⊢
 have hkl:(k.map ckD).length=N:=by rw [zaq,hk]
 have hw1:IntKind.i64.wrap (IntKind.i64.wrap (2*(r:Int))+1)=((2*r+1:Nat):Int):=by rw [show IntKind.i64.wrap (2*(r:Int))=2*(r:Int) from zf (by omega) (by omega),zf (by omega) (by omega)];omega
 obtain ⟨c,hc⟩:∃c,c=2*r+1:=⟨_,rfl⟩
 rw [← hc] at hw1
 rcases Nat.lt_or_ge c hi with hlt|hge
 ·have hcmp:decide ((hi:Int)≤(c:Int))=false:=decide_eq_false (by omega)
  obtain ⟨n,rfl⟩:∃m,n=m+1:=⟨n - 1,by omega⟩
  have hwc:=zp (i:=c) (by omega)
  have hwf:IntKind.i64.wrap ((first:Int)+(c:Int))=((first+c:Nat):Int):=by rw [zf (by omega) (by omega)];omega
  have hwg:=zp (i:=first+c) (by omega)
  have hwr:IntKind.i64.wrap ((first:Int)+(r:Int))=((first+r:Nat):Int):=by rw [zf (by omega) (by omega)];omega
  rw [siftL,← hc,if_neg (by omega)] at hf
  have hr0:=ck_at (l:=k) (i:=first+r) (by omega)
  have hr1:=ck_at (l:=k) (i:=first+c) (by omega)
  have he1:kidL hi first c k=if c+1<hi∧k.getD (first+c) 0<k.getD (first+c+1) 0 then c+1 else c:=rfl
  obtain ⟨e,he⟩:∃e,e=kidL hi first c k:=⟨_,rfl⟩
  rw [← he] at hf he1
  have he2:c≤e∧e<hi:=by rw [he1];split<;>omega
  have hr2:=ck_at (l:=k) (i:=first+e) (by omega)
  have hwe:IntKind.i64.wrap ((first:Int)+(e:Int))=((first+e:Nat):Int):=by rw [zf (by omega) (by omega)];omega
  refine' zcK (zP 3) (zu hw1 hcmp)
  refine zdE ⟨[(0,true,.osl 5 1 N 0 N),(2,true,.d (.int .i64 hi)),(3,true,.d (.int .i64 first)),(8,true,.d (.int .i64 r)),(9,true,.d (.int .i64 e))],[(5,.arr 1 (k.map ckD))],some []⟩ ?_ ?_
  ·cases hd:decide (((c+1:Nat):Int)<(hi:Int)) with
   | true=>
    have hd2:c+1<hi:=by rw [decide_eq_true_eq] at hd;omega
    have hr3:=ck_at (l:=k) (i:=first+c+1) (by omega)
    cases hx:decide (k.getD (first+c) 0<k.getD (first+c+1) 0) with
    |true=>
     rw [if_pos ⟨by rw [decide_eq_true_eq] at hd;omega,of_decide_eq_true hx⟩] at he1
     refine' walkR (zA hwc hd hwf hwg hkl (zF hr1 hr3 hx)) (zb zj <| za _)
     all_goals first|omega|(rw [he1];done)|trace_state
    |false=>
     rw [if_neg (fun h=>by rw [decide_eq_false_iff_not] at hx;exact hx h.2)] at he1
     refine' walkR (zA hwc hd hwf hwg hkl (zF hr1 hr3 hx)) (zb zj <| za _)
     all_goals first|omega|(rw [he1];done)|trace_state
   | false=>
    rw [if_neg (fun h=>by rw [decide_eq_false_iff_not] at hd;omega)] at he1
    have hr3:(k.map ckD).getD (first+c+1) []=if first+c+1<N then [.int .u64 (k.getD (first+c+1) 0)] else []:=by
     split
     ·exact ck_at (by omega)
     ·rw [List.getD_eq_getElem?_getD,List.getElem?_eq_none (by rw [zaq];omega)];rfl
    by_cases hN1:first+c+1<N
    ·rw [if_pos hN1] at hr3
     refine' walkR (zA hwc hd hwf hwg hkl (zu hr1 hr3)) (zb zj <| za _)
     all_goals first|omega|(rw [he1];done)|trace_state
    ·rw [if_neg hN1] at hr3
     have tk:=zb zeQ <| za Tryz.prog
     refine' walkR (And.intro hwc <| And.intro hd <| And.intro hwf <| And.intro hwg <| And.intro hkl <| And.intro hr1 <| And.intro hr3 zhJ) tk
     all_goals first|omega|(rw [he1];done)|trace_state
  cases hx:decide (k.getD (first+r) 0<k.getD (first+e) 0) with
  |true=>
   rw [if_pos (of_decide_eq_true hx)] at hf
   have hne:first+r≠first+e:=by omega
   have hr3:=zhH (l:=k) (i:=first+r) (j:=first+e) (x:= [.int .u64 (k.getD (first+e) 0)]) (by omega) hne
   have hsl:((k.map ckD).set (first+r) [.int .u64 (k.getD (first+e) 0)]).length=N:=by rw [List.length_set,hkl]
   have hsw:=zbf (l:=k) (i:=first+r) (j:=first+e)
   refine' walkR (zA hwr hwe hkl hr0 hr2 (z7 hx hr3 hsl hsw)) (zb zj <| za _)
   all_goals first|omega|skip
   exact ⟨⟨(n,e,swp k (first+r) (first+e)),by simp only [zC,hk],by simp only;omega,by simp only;omega,hf⟩,by simp only [AS.le,leT,leH,zh,AsgK,AV.le,AV.leL,AObj.le,inH,idsT,idsH,AV.ids,AV.idsL,AV.idsR,AObj.ids,lk,hget,go_sem,aeq,aeq.aeqF,simprocAttr],by simp⟩
  |false=>
   rw [if_neg (by rw [decide_eq_false_iff_not] at hx;exact hx)] at hf
   refine' walkR (zA hwr hwe hkl hr0 hr2 hx) (zb zj <| za _)
   all_goals first|omega|skip
   rw [hf]
 ·have hcmp:decide ((hi:Int)≤(c:Int))=true:=decide_eq_true (by omega)
  have hf:L=k:=by
   rw [hf]
   cases n with
   |zero=>rfl
   |succ n=>rw [siftL,if_pos (by omega)]
  refine' zi (zu hw1 hcmp)
  rw [hf]
end Go.Aw
