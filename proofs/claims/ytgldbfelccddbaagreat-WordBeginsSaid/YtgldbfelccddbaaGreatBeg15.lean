/-
 Sorting numbers: patterns are broken.
-/
import Derived.Test.YtgldbfelccddbaaGreatBeg10
import Derived.Test.YtgldbfelccddbaaGreatBeg9
set_option maxRecDepth 100000
set_option maxHeartbeats 2000000
set_option linter.unusedSimpArgs false
set_option linter.unusedVariables false
namespace Go.Aw
open Go Go.Proofs
theorem zoS (x:Int) (m:Nat) (hm:m<18446744073709551616):0≤ibits .and .u64 x m∧ibits .and .u64 x m≤m:=by
 unfold ibits
 simp only
 have h1:(BitVec.ofInt IntKind.u64.bits x&&& BitVec.ofInt IntKind.u64.bits (m:Int)).toNat≤m:=by
  rw [BitVec.toNat_and]
  refine Nat.le_trans Nat.and_le_right ?_
  rw [BitVec.ofInt_natCast,BitVec.toNat_ofNat]
  exact Nat.mod_le _ _
 rw [IntKind.wrap_u64]
 omega
def rndL (n:Nat) (x:Int):Nat:=if n≤(ibits .and .u64 x ((2 ^ bitL 20 n - 1:Nat):Int)).toNat then (ibits .and .u64 x ((2 ^ bitL 20 n - 1:Nat):Int)).toNat - n else (ibits .and .u64 x ((2 ^ bitL 20 n - 1:Nat):Int)).toNat
def brkL (a n:Nat):Nat→Int→Nat→List Int→List Int
 |0,_,_,l=>l
 |k+1,x,i,l=>brkL a n k (nxt x) (i+1) (swp l i (a+rndL n (nxt x)))
theorem zjD (a n:Nat):∀ (k:Nat) (x:Int) (i:Nat) (l:List Int),(brkL a n k x i l).length=l.length
 |0,_,_,_=>rfl
 |k+1,x,i,l=>by rw [brkL,zjD,zC]
def zd2 (a b:Nat) (l:List Int):List Int:=brkL a (b - a) 3 ((b - a:Nat):Int) (a+(b - a) / 4*2 - 1) l
theorem zfL (a b:Nat) (l:List Int):(zd2 a b l).length=l.length:=zjD ..
theorem zbg {l:List Int} {i j:Nat} (h:j<l.length):((l.map ckD).set i [.int .u64 (l.getD j 0)]).getD j []= [.int .u64 (l.getD j 0)]:=by
 by_cases e:i=j
 ·subst e
  rw [List.getD_eq_getElem?_getD,List.getElem?_set_self (by rw [zaq];exact h)]
  rfl
 ·exact zhH h e
theorem zoa (l:List Int) (N a b:Nat) (hN:l.length=N) (h8:8≤b - a) (hb:b≤N) (hl:N≤1000):ACall Tryz.prog 207 60 [.osl 5 1 N 0 N,.d (.int .i64 a),.d (.int .i64 b)] [(5,.arr 1 (l.map ckD))] (fun r h'=>r= .tup []∧h'= [(5,.arr 1 ((zd2 a b l).map ckD))]):=by
 obtain ⟨n,hn⟩:∃n,n=b - a:=⟨_,rfl⟩
 obtain ⟨q,hq⟩:∃q,q=n / 4:=⟨_,rfl⟩
 obtain ⟨m,hm⟩:∃m,m=a+q*2:=⟨_,rfl⟩
 obtain ⟨L,hL⟩:∃L,L=zd2 a b l:=⟨_,rfl⟩
 rw [← hL]
 rw [zd2,← hn,← hq,← hm] at hL
 have hbr:=zeg n (by omega)
 obtain ⟨M,hM⟩:∃M:Nat,M=2 ^ bitL 20 n:=⟨_,rfl⟩
 rw [← hM] at hbr
 have hw1:IntKind.i64.wrap ((b:Int) - a)=(n:Int):=by rw [zf (by omega) (by omega)];omega
 have hw2:IntKind.i64.wrap ((n:Int).tdiv 4)=(q:Int):=by rw [Int.tdiv_eq_ediv_of_nonneg (by omega),zf (by omega) (by omega)];omega
 have hw4:IntKind.i64.wrap ((q:Int)*2)=((q*2:Nat):Int):=by rw [zf (by omega) (by omega)];omega
 have hw6:IntKind.i64.wrap ((a:Int)+((q*2:Nat):Int))=(m:Int):=by rw [zf (by omega) (by omega)];omega
 have hw7:IntKind.i64.wrap ((m:Int) - 1)=((m - 1:Nat):Int):=by rw [zf (by omega) (by omega)];omega
 have hw8:IntKind.i64.wrap ((m:Int)+1)=((m+1:Nat):Int):=by rw [zf (by omega) (by omega)];omega
 have hwu:IntKind.u64.wrap (n:Int)=(n:Int):=by rw [IntKind.wrap_u64];omega
 have e8:decide ((8:Int)≤(n:Int))=true:=decide_eq_true (by omega)
 have hwm:IntKind.u64.wrap ((M:Int) - 1)=((M - 1:Nat):Int):=by rw [IntKind.wrap_u64];omega
 refine za7 (fun i=>decide (i=5)) ?_
 refine bod Tryz.func207 Tryz.ntmps207 (fun base=>?_)
 refine' walkW (zA hw1 hw2 hw4 hw6 hw7 (zF hwu e8 hM.symm)) (zb zhL <| za _)
 all_goals first|omega|skip
 refine zt (fun p: { p:Nat×Int×List Int // p.2.2.length=N∧p.1≤3∧L=brkL a n p.1 p.2.1 (m+2 - p.1) p.2.2 } =>⟨[(0,true,.osl 5 1 N 0 N),(1,true,.d (.int .i64 a)),(6,true,.d (.int .i64 n)),(7,true,.vp 60 0),(8,true,.d (.int .u64 M)),(9,true,.d (.int .i64 ((m+2 - p.1.1:Nat):Int)))],[(60,.var [.d (.int .u64 p.1.2.1)]),(5,.arr 1 (p.1.2.2.map ckD))],some []⟩) (fun p=>p.1.1) ⟨(3,n,l),hN,Nat.le_refl _,by rw [hL];congr 1⟩ le1 (fun p=>?_)
 obtain ⟨⟨k,x,y⟩,hk,h3,hf⟩:=p
 simp only at hk h3 hf ⊢
 cases k with
 |zero=>
  rw [brkL] at hf
  rw [Nat.sub_zero]
  have hcmp:decide (((m+2:Nat):Int)≤((m+1:Nat):Int))=false:=decide_eq_false (by omega)
  refine' zc (zad hw2 hw4 hw6 hw8 hcmp)
  rw [hf]
 | succ k=>
  obtain ⟨i,hi⟩:∃i,i=m+2 - (k+1):=⟨_,rfl⟩
  rw [← hi] at hf ⊢
  have hmk:m+2 - k=i+1:=by omega
  have hcmp:decide ((i:Int)≤((m+1:Nat):Int))=true:=decide_eq_true (by omega)
  have hwi:=zp (i:=i) (by omega)
  refine' zc (zad hw2 hw4 hw6 hw8 hcmp)
  refine (zan (zpv x) (by decide) rfl (by simp [AObj.ids,AV.idsL,AV.ids]) (by simp [AV.idsL,AV.ids])).mono ?_
  rintro r h' ⟨rfl,rfl⟩
  rw [brkL] at hf
  obtain ⟨X,hX⟩:∃X,X=nxt x:=⟨_,rfl⟩
  rw [← hX] at hf ⊢
  have hal:=zoS X (M - 1) (by omega)
  obtain ⟨r,hr⟩:∃r:Nat,ibits .and .u64 X ((M - 1:Nat):Int)=(r:Int):=⟨(ibits .and .u64 X ((M - 1:Nat):Int)).toNat,by omega⟩
  have hrn:rndL n X=if n≤r then r - n else r:=by rw [rndL,← hM,hr,Int.toNat_natCast]
  rw [hr] at hal
  have hwr:IntKind.i64.wrap (r:Int)=r:=zf (by omega) (by omega)
  obtain ⟨o,ho⟩:∃o,o=rndL n X:=⟨_,rfl⟩
  rw [← ho] at hf hrn
  have hon:o<n:=by rw [hrn];split<;>omega
  have hkl:(y.map ckD).length=N:=by rw [zaq,hk]
  have hwf:IntKind.i64.wrap ((a:Int)+(o:Int))=((a+o:Nat):Int):=by rw [zf (by omega) (by omega)];omega
  have hr1:=ck_at (l:=y) (i:=i) (by omega)
  have hr2:=ck_at (l:=y) (i:=a+o) (by omega)
  have hr3:=zbg (l:=y) (i:=i) (j:=a+o) (by omega)
  have hsl:((y.map ckD).set i [.int .u64 (y.getD (a+o) 0)]).length=N:=by rw [List.length_set,hkl]
  have hsw:=zbf (l:=y) (i:=i) (j:=a+o)
  cases hc:decide ((n:Int)≤(r:Int)) with
  |true=>
   have hc2:=of_decide_eq_true hc
   rw [if_pos (by omega)] at hrn
   have hwo:IntKind.i64.wrap ((r:Int) - (n:Int))=(o:Int):=by rw [zf (by omega) (by omega)];omega
   simp only [go_sem,aeq,aeq.aeqF,simprocAttr,hset,hwm,hr,hwr]
   refine' zc (zA hwm hr hwr hc hwo (zA hwf hkl hr1 hr2 hr3 (zu hsl hsw)))
   all_goals first|omega|skip
   exact ⟨⟨(k,X,swp y i (a+o)),by simp only [zC,hk],by simp only;omega,by rw [hf,show m+2 - k=i+1 by omega]⟩,by simp only [AS.le,leT,leH,zh,AsgK,AV.le,AV.leL,AObj.le,inH,idsT,idsH,AV.ids,AV.idsL,AV.idsR,AObj.ids,lk,hget,go_sem,aeq,aeq.aeqF,simprocAttr,hwi,hmk]<;>and_intros<;>rfl,by simp⟩
  |false=>
   have hc2:=of_decide_eq_false hc
   rw [if_neg (by omega)] at hrn
   subst hrn
   simp only [go_sem,aeq,aeq.aeqF,simprocAttr,hset,hwm,hr,hwr]
   refine' zc (zA hwm hr hwr hc hwf (zA hkl hr1 hr2 hr3 hsl hsw))
   all_goals first|omega|skip
   exact ⟨⟨(k,X,swp y i (a+o)),by simp only [zC,hk],by simp only;omega,by rw [hf,show m+2 - k=i+1 by omega]⟩,by simp only [AS.le,leT,leH,zh,AsgK,AV.le,AV.leL,AObj.le,inH,idsT,idsH,AV.ids,AV.idsL,AV.idsR,AObj.ids,lk,hget,go_sem,aeq,aeq.aeqF,simprocAttr,hwi,hmk]<;>and_intros<;>rfl,by simp⟩
end Go.Aw
