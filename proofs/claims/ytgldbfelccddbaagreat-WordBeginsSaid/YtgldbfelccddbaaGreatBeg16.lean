/-
 Sorting numbers: those that stand beside one as they are go.
-/
import Derived.Test.YtgldbfelccddbaaGreatBeg10
set_option maxRecDepth 100000
set_option maxHeartbeats 2000000
set_option linter.unusedSimpArgs false
set_option linter.unusedVariables false
namespace Go.Aw
open Go Go.Proofs
def dupL (l:List Int):Nat→Nat→Nat
 |0,k=>k
 |n+1,k=>if k<l.length∧¬l.getD k 0=l.getD (k - 1) 0 then dupL l n (k+1) else k
def mvL (s:Nat):Nat→Nat→Nat→List Int→Nat×List Int
 |0,i,_,l=>(i,l)
 |n+1,i,k,l=>if s+k<l.length then (if l.getD (s+k) 0≠l.getD (s+(k - 1)) 0 then mvL s n (i+1) (k+1) (l.set i (l.getD (s+k) 0)) else mvL s n i (k+1) l) else (i,l)
def cmpN (l:List Int):Nat:=if l.length<2 then l.length else if dupL l l.length 1<l.length then (mvL (dupL l l.length 1) l.length (dupL l l.length 1) 1 l).1 else l.length
theorem zjG (l:List Int):∀ (n k:Nat),k≤l.length→k≤dupL l n k∧dupL l n k≤l.length
 |0,k,h=>⟨Nat.le_refl _,h⟩
 |n+1,k,h=>by
  rw [dupL]
  split
  ·have:=zjG l n (k+1) (by omega);omega
  ·omega
theorem ziL (s:Nat):∀ (n i k:Nat) (l:List Int),i+1≤s+k→s+k≤l.length→i≤(mvL s n i k l).1∧(mvL s n i k l).1≤l.length∧(mvL s n i k l).2.length=l.length
 |0,i,k,l,h,h2=>⟨Nat.le_refl _,by simp only [mvL];omega,rfl⟩
 | n+1,i,k,l,h,h2=>by
  rw [mvL]
  split
  ·split
   ·have:=ziL s n (i+1) (k+1) (l.set i (l.getD (s+k) 0)) (by omega) (by rw [List.length_set];omega)
    rw [List.length_set] at this
    omega
   ·have:=ziL s n i (k+1) l (by omega) (by omega)
    omega
  ·exact ⟨Nat.le_refl _,by simp only;omega,rfl⟩
theorem zhM {xs rows:List (List D)} {off:Nat} (h:off+rows.length≤xs.length):(rput xs off rows).length=xs.length:=by
 simp only [rput,List.length_append,List.length_take,List.length_drop]
 omega
theorem zkG (l:List Int) (N:Nat) (hN:l.length=N) (h:N≤1000):ACall Tryz.prog 34 40 [.osl 5 1 N 0 N] [(5,.arr 1 (l.map ckD))] (fun r h'=>∃ob',h'= [(5,ob')]∧(r= .osl 5 1 N 0 (cmpN l)∧∃rows:List (List D),ob'= .arr 1 rows∧rows.length=N)):=by
 obtain ⟨R,hR⟩:∃R,R=cmpN l:=⟨_,rfl⟩
 rw [← hR]
 unfold cmpN at hR
 have hkl:(l.map ckD).length=N:=by rw [zaq,hN]
 refine bod Tryz.func34 Tryz.ntmps34 (fun base=>?_)
 by_cases h2:N<2
 ·have hc:decide ((N:Int)<2)=true:=decide_eq_true (by omega)
  rw [if_pos (by omega),hN] at hR
  refine' zi hc
  all_goals first|omega|exact ⟨_,rfl,by rw [hR],_,rfl,hkl⟩|trace_state
 have hc:decide ((N:Int)<2)=false:=decide_eq_false (by omega)
 rw [if_neg (by omega),hN] at hR
 obtain ⟨s,hs⟩:∃s,s=dupL l N 1:=⟨_,rfl⟩
 rw [← hs] at hR
 refine' zi hc
 refine zt (fun q: { q:Nat×Nat // 1≤q.2∧q.2≤N∧N≤q.1+q.2∧s=dupL l q.1 q.2 } =>⟨[(0,true,.osl 5 1 N 0 N),(3,true,.d (.int .i64 q.1.2))],[(5,.arr 1 (l.map ckD))],some []⟩) (fun q=>q.1.1) ⟨(N,1),Nat.le_refl _,by simp only;omega,by simp only;omega,hs⟩ le1 (fun q=>?_)
 obtain ⟨⟨n,k⟩,hk1,hkN,hn,hf⟩:=q
 simp only at hk1 hkN hn hf ⊢
 by_cases hkl2:k<N
 ·have hcmp:decide ((k:Int)<(N:Int))=true:=decide_eq_true (by omega)
  have hwk:=zp (i:=k) (by omega)
  have hwd:IntKind.i64.wrap ((k:Int) - 1)=((k - 1:Nat):Int):=by rw [zf (by omega) (by omega)];omega
  have hr1:=ck_at (l:=l) (i:=k) (by omega)
  have hr0:=ck_at (l:=l) (i:=k - 1) (by omega)
  obtain ⟨n,rfl⟩:∃m,n=m+1:=⟨n - 1,by omega⟩
  rw [dupL] at hf
  cases hx:(l.getD k 0==l.getD (k - 1) 0) with
  |false=>
   rw [if_pos ⟨by omega,beq_eq_false_iff_ne.1 hx⟩] at hf
   refine' zi (zA hcmp hkl hwd hr1 hr0 hx)
   all_goals first|omega|skip
   exact ⟨⟨(n,k+1),by simp only;omega,by simp only;omega,by simp only;omega,hf⟩,by simp only [AS.le,leT,leH,zh,AsgK,AV.le,AV.leL,AObj.le,inH,idsT,idsH,AV.ids,AV.idsL,AV.idsR,AObj.ids,lk,hget,go_sem,aeq,aeq.aeqF,simprocAttr,hwk]<;>and_intros<;>rfl,by simp⟩
  | true=>
   rw [if_neg (fun h=>h.2 (beq_iff_eq.1 hx))] at hf
   rw [hf,if_pos hkl2] at hR
   refine' zi (zA hcmp hkl hwd hr1 hr0 hx)
   all_goals first|omega|skip
   refine zt (fun q: { q:Nat×Nat×Nat×List Int // q.2.2.2.length=N∧k≤q.2.1∧q.2.1+1≤k+q.2.2.1∧k+q.2.2.1≤N∧N≤q.1+(k+q.2.2.1)∧R=(mvL k q.1 q.2.1 q.2.2.1 q.2.2.2).1 } =>⟨[(0,true,.osl 5 1 N 0 N),(3,true,.d (.int .i64 q.1.2.1)),(4,true,.osl 5 1 N k (N - k)),(5,true,.d (.int .i64 q.1.2.2.1))],[(5,.arr 1 (q.1.2.2.2.map ckD))],some []⟩) (fun q=>q.1.1) ⟨(N,k,1,l),hN,Nat.le_refl _,Nat.le_refl _,by simp only;omega,by simp only;omega,hR⟩ le1 (fun q=>?_)
   obtain ⟨⟨n2,i,j,m⟩,g1,g2,g3,g4,g5,hg⟩:=q
   simp only at g1 g2 g3 g4 g5 hg ⊢
   have hml:(m.map ckD).length=N:=by rw [zaq,g1]
   have hir:=ziL k n2 i j m g3 (by omega)
   rw [← hg,g1] at hir
   by_cases hjl:k+j<N
   ·have hcj:decide ((j:Int)<((N - k:Nat):Int))=true:=decide_eq_true (by omega)
    have hwj:=zp (i:=j) (by omega)
    have hwi:=zp (i:=i) (by omega)
    have hwe:IntKind.i64.wrap ((j:Int) - 1)=((j - 1:Nat):Int):=by rw [zf (by omega) (by omega)];omega
    have hr2:=ck_at (l:=m) (i:=k+j) (by omega)
    have hr3:=ck_at (l:=m) (i:=k+(j - 1)) (by omega)
    have hr4:=ck_at (l:=m) (i:=i) (by omega)
    obtain ⟨n2,rfl⟩:∃z,n2=z+1:=⟨n2 - 1,by omega⟩
    rw [mvL,if_pos (by omega)] at hg
    cases hx2:(m.getD (k+j) 0 !=m.getD (k+(j - 1)) 0) with
    |true=>
     rw [if_pos (by simpa using hx2)] at hg
     have hst:(m.map ckD).set i [.int .u64 (m.getD (k+j) 0)]=(m.set i (m.getD (k+j) 0)).map ckD:=by rw [List.map_set];rfl
     refine' zi (zA hcj hml hwe hr2 hr3 (zF hr4 hx2 hst))
     all_goals first|omega|skip
     exact ⟨⟨(n2,i+1,j+1,m.set i (m.getD (k+j) 0)),by simp only [List.length_set];exact g1,by simp only;omega,by simp only;omega,by simp only;omega,by simp only;omega,hg⟩,by simp only [AS.le,leT,leH,zh,AsgK,AV.le,AV.leL,AObj.le,inH,idsT,idsH,AV.ids,AV.idsL,AV.idsR,AObj.ids,lk,hget,go_sem,aeq,aeq.aeqF,simprocAttr,hwj,hwi]<;>and_intros<;>rfl,by simp⟩
    |false=>
     rw [if_neg (by simpa using hx2)] at hg
     refine' zi (zA hcj hml hwe hr2 hr3 hx2)
     all_goals first|omega|skip
     exact ⟨⟨(n2,i,j+1,m),g1,g2,by simp only;omega,by simp only;omega,by simp only;omega,hg⟩,by simp only [AS.le,leT,leH,zh,AsgK,AV.le,AV.leL,AObj.le,inH,idsT,idsH,AV.ids,AV.idsL,AV.idsR,AObj.ids,lk,hget,go_sem,aeq,aeq.aeqF,simprocAttr,hwj]<;>and_intros<;>rfl,by simp⟩
   ·have hcj:decide ((j:Int)<((N - k:Nat):Int))=false:=decide_eq_false (by omega)
    have hRi:R=i:=by
     rw [hg]
     cases n2 with
     |zero=>rfl
     |succ n2=>rw [mvL,if_neg (by omega)]
    refine' zi (zu hcj hml)
    all_goals first|omega|(rw [zhM (by rw [List.length_replicate,hml];omega),hml];done)|exact ⟨_,rfl,by rw [hRi];rfl,_,rfl,by rw [zhM (by rw [List.length_replicate,hml];omega),hml]⟩
 ·have hcmp:decide ((k:Int)<(N:Int))=false:=decide_eq_false (by omega)
  have hsk:s=k:=by
   rw [hf]
   cases n with
   |zero=>rfl
   |succ n=>rw [dupL,if_neg (by omega)]
  rw [if_neg (by omega)] at hR
  refine' zi hcmp
  all_goals first|omega|exact ⟨_,rfl,by rw [hR],_,rfl,hkl⟩|trace_state
end Go.Aw
