/-
 Sorting numbers: heaps.
-/
import Derived.Test.YtgldbfelccddbaaGreatBeg13
set_option maxRecDepth 100000
set_option maxHeartbeats 2000000
set_option linter.unusedSimpArgs false
set_option linter.unusedVariables false
namespace Go.Aw
open Go Go.Proofs
def hpA (hi first:Nat):Nat→List Int→List Int
 |0,l=>l
 |n+1,l=>hpA hi first n (siftL hi first hi n l)
theorem ziH (hi first:Nat):∀ (n:Nat) (l:List Int),(hpA hi first n l).length=l.length
 |0,l=>rfl
 |n+1,l=>by rw [hpA,ziH,zcd]
def hpB (first:Nat):Nat→List Int→List Int
 |0,l=>l
 |n+1,l=>hpB first n (siftL n first n 0 (swp l first (first+n)))
theorem zmh (first:Nat):∀ (n:Nat) (l:List Int),(hpB first n l).length=l.length
 |0,l=>rfl
 |n+1,l=>by rw [hpB,zmh,zcd,zC]
def heapL (a b:Nat) (l:List Int):List Int:=hpB a (b - a) (hpA (b - a) a ((b - a - 1) / 2+1) l)
theorem zmi (a b:Nat) (l:List Int):(heapL a b l).length=l.length:=by rw [heapL,zmh,ziH]
theorem zpu (l:List Int) (N a b:Nat) (hN:l.length=N) (ha:a<b) (hb:b≤N) (hl:N≤1000000):ACall Tryz.prog 206 60 [.osl 5 1 N 0 N,.d (.int .i64 a),.d (.int .i64 b)] [(5,.arr 1 (l.map ckD))] (fun r h'=>r= .tup []∧h'= [(5,.arr 1 ((heapL a b l).map ckD))]):=by
 obtain ⟨hi,hhi⟩:∃hi,hi=b - a:=⟨_,rfl⟩
 obtain ⟨L,hL⟩:∃L,L=heapL a b l:=⟨_,rfl⟩
 rw [← hL]
 rw [heapL,← hhi] at hL
 obtain ⟨M,hM⟩:∃M,M=hpA hi a ((hi - 1) / 2+1) l:=⟨_,rfl⟩
 rw [← hM] at hL
 have hMl:M.length=N:=by rw [hM,ziH,hN]
 have hw1:IntKind.i64.wrap ((b:Int) - a)=(hi:Int):=by rw [zf (by omega) (by omega)];omega
 have hw2:IntKind.i64.wrap ((hi:Int) - 1)=((hi - 1:Nat):Int):=by rw [zf (by omega) (by omega)];omega
 have hw3:IntKind.i64.wrap (((hi - 1:Nat):Int).tdiv 2)=(((hi - 1) / 2+1:Nat):Int) - 1:=by
  rw [Int.tdiv_eq_ediv_of_nonneg (by omega),zf (by omega) (by omega)];omega
 refine bod Tryz.func206 Tryz.ntmps206 (fun base=>?_)
 refine' zc (zF hw1 hw2 hw3)
 refine zt (fun q: { q:Nat×List Int // q.2.length=N∧q.1≤(hi - 1) / 2+1∧M=hpA hi a q.1 q.2 } =>⟨[(0,true,.osl 5 1 N 0 N),(6,true,.d (.int .i64 a)),(7,true,.d (.int .i64 0)),(8,true,.d (.int .i64 hi)),(9,true,.d (.int .i64 ((q.1.1:Int) - 1)))],[(5,.arr 1 (q.1.2.map ckD))],some []⟩) (fun q=>q.1.1) ⟨((hi - 1) / 2+1,l),hN,Nat.le_refl _,hM⟩ le0 (fun q=>?_)
 obtain ⟨⟨n,k⟩,hk,hn,hf⟩:=q
 simp only at hk hn hf ⊢
 cases n with
 |succ n=>
  have hcmp:decide ((0:Int)≤((n+1:Nat):Int) - 1)=true:=decide_eq_true (by omega)
  have hn1:((n+1:Nat):Int) - 1=(n:Int):=by omega
  have hwn:IntKind.i64.wrap ((n:Int) - 1)=(n:Int) - 1:=zf (by omega) (by omega)
  rw [hpA] at hf
  rw [hn1] at hcmp ⊢
  refine' zc hcmp
  refine (zan (zmg k N n hi a hk (by omega) (by omega) hl) (by decide) rfl (by simp [AObj.ids]) (by simp [AV.idsL,AV.ids])).mono ?_
  rintro r h' ⟨rfl,rfl⟩
  simp only [go_sem,aeq,aeq.aeqF,simprocAttr,hset]
  refine' zc hwn
  all_goals first|omega|skip
  exact ⟨⟨(n,siftL hi a hi n k),by simp only [zcd,hk],by simp only;omega,hf⟩,by simp only [AS.le,leT,leH,zh,AsgK,AV.le,AV.leL,AObj.le,inH,idsT,idsH,AV.ids,AV.idsL,AV.idsR,AObj.ids,lk,hget,go_sem,aeq,aeq.aeqF,simprocAttr],by simp⟩
 | zero=>
  rw [hpA] at hf
  subst hf
  have hcmp:decide ((0:Int)≤((0:Nat):Int) - 1)=false:=by decide
  have hw2:IntKind.i64.wrap ((hi:Int) - 1)=(hi:Int) - 1:=zf (by omega) (by omega)
  refine' zc (zu hcmp hw2)
  refine zt (fun q: { q:Nat×List Int // q.2.length=N∧q.1≤hi∧L=hpB a q.1 q.2 } =>⟨[(0,true,.osl 5 1 N 0 N),(6,true,.d (.int .i64 a)),(7,true,.d (.int .i64 0)),(10,true,.d (.int .i64 ((q.1.1:Int) - 1)))],[(5,.arr 1 (q.1.2.map ckD))],some []⟩) (fun q=>q.1.1) ⟨(hi,M),hMl,Nat.le_refl _,hL⟩ le0 (fun q=>?_)
  obtain ⟨⟨n,k⟩,hk,hn,hf⟩:=q
  simp only at hk hn hf ⊢
  cases n with
  | succ n=>
   have hcmp:decide ((0:Int)≤((n+1:Nat):Int) - 1)=true:=decide_eq_true (by omega)
   have hn1:((n+1:Nat):Int) - 1=(n:Int):=by omega
   have hwn:IntKind.i64.wrap ((n:Int) - 1)=(n:Int) - 1:=zf (by omega) (by omega)
   have hwf:IntKind.i64.wrap ((a:Int)+(n:Int))=((a+n:Nat):Int):=by rw [zf (by omega) (by omega)];omega
   have hkl:(k.map ckD).length=N:=by rw [zaq,hk]
   have hr1:=ck_at (l:=k) (i:=a) (by omega)
   have hr2:=ck_at (l:=k) (i:=a+n) (by omega)
   have hsl:((k.map ckD).set a [.int .u64 (k.getD (a+n) 0)]).length=N:=by rw [List.length_set,hkl]
   have hsw:=zbf (l:=k) (i:=a) (j:=a+n)
   rw [hpB] at hf
   rw [hn1] at hcmp ⊢
   have hr3:((k.map ckD).set a [.int .u64 (k.getD (a+n) 0)]).getD (a+n) []= [.int .u64 (k.getD (a+n) 0)]:=by
    cases n with
    |zero=>rw [show a+0=a from rfl,List.getD_eq_getElem?_getD,List.getElem?_set_self (by rw [zaq];omega)];rfl
    |succ n=>exact zhH (by omega) (by omega)
   refine' zc (zA hcmp hwf hkl hr1 hr2 (zF hsl hr3 hsw))
   all_goals first|omega|skip
   refine (zan (zmg (swp k a (a+n)) N 0 n a (by rw [zC,hk]) (by omega) (by omega) hl) (by decide) rfl (by simp [AObj.ids]) (by simp [AV.idsL,AV.ids])).mono ?_
   rintro r h' ⟨rfl,rfl⟩
   simp only [go_sem,aeq,aeq.aeqF,simprocAttr,hset]
   refine' zc hwn
   all_goals first|omega|skip
   exact ⟨⟨(n,siftL n a n 0 (swp k a (a+n))),by simp only [zcd,zC,hk],by simp only;omega,hf⟩,by simp only [AS.le,leT,leH,zh,AsgK,AV.le,AV.leL,AObj.le,inH,idsT,idsH,AV.ids,AV.idsL,AV.idsR,AObj.ids,lk,hget,go_sem,aeq,aeq.aeqF,simprocAttr],by simp⟩
  |zero=>
   rw [hpB] at hf
   subst hf
   have hcmp:decide ((0:Int)≤((0:Nat):Int) - 1)=false:=by decide
   refine' zc hcmp
end Go.Aw
