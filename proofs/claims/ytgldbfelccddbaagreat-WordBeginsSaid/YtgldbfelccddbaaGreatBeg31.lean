/-
 Sorting numbers: the whole.
-/
import Derived.Test.YtgldbfelccddbaaGreatBeg20
import Derived.Test.YtgldbfelccddbaaGreatBeg29
set_option maxRecDepth 100000
set_option maxHeartbeats 2000000
set_option linter.unusedSimpArgs false
set_option linter.unusedVariables false
namespace Go.Aw
open Go Go.Proofs
theorem zob {a b:Nat} {l:List Int} :(insS a b l).length=l.length:=zjz ..
theorem zoc {a b:Nat} {l:List Int} :(pisS a b l).2.length=l.length:=zms ..
structure PQ where
 a:Nat
 b:Nat
 lim:Nat
 eb:Bool
 ep:Bool
 l:List Int
def pq1 (s:PQ):PQ:=if s.eb then s else { s with l:=zd2 s.a s.b s.l,lim:=s.lim - 1 }
def pq2 (l:List Int) (a b:Nat):List Int×Nat×Nat:=if hintL l a b=2 then (revL b a (b - 1) l,b - 1 - ((pivL l a b).1 - a),1) else (l,(pivL l a b).1,hintL l a b)
def pqW (s:PQ) (h:Nat):Bool:=s.eb&&s.ep&&(h==1)
def pq3 (s:PQ) (h:Nat) (l:List Int):Bool×List Int:=if pqW s h then pisS s.a s.b l else (false,l)
def pqE (a p:Nat) (l:List Int):Bool:=decide (0<a)&& !decide (l.getD (a - 1) 0<l.getD p 0)
def pdqL:Nat→PQ→List Int
 |0,s=>s.l
 | n+1,s=>
  if s.b - s.a≤12 then insS s.a s.b s.l
  else if s.lim=0 then heapL s.a s.b s.l
  else
   let s1:=pq1 s
   let q:=pq2 s1.l s.a s.b
   let r:=pq3 s q.2.2 q.1
   if r.1 then r.2
   else if pqE s.a q.2.1 r.2 then pdqL n { s1 with a:=(peqS s.a s.b q.2.1 r.2).1,l:=(peqS s.a s.b q.2.1 r.2).2 }
   else
    let t:=prtS s.a s.b q.2.1 r.2
    if t.1.1 - s.a<s.b - t.1.1 then pdqL n ⟨t.1.1+1,s.b,s1.lim,decide ((s.b - s.a) / 8≤t.1.1 - s.a),t.1.2,pdqL n ⟨s.a,t.1.1,s1.lim,true,true,t.2⟩⟩
    else pdqL n ⟨s.a,t.1.1,s1.lim,decide ((s.b - s.a) / 8≤s.b - t.1.1),t.1.2,pdqL n ⟨t.1.1+1,s.b,s1.lim,true,true,t.2⟩⟩
theorem zpA {s:PQ} :(pq1 s).l.length=s.l.length:=by unfold pq1;split;rfl;exact zfL ..
theorem zmt {l:List Int} {a b:Nat} :(pq2 l a b).1.length=l.length:=by unfold pq2;split;exact zjA .. ;rfl
theorem ziJ {l:List Int} {a b:Nat} (h:8≤b - a):a≤(pq2 l a b).2.1∧(pq2 l a b).2.1<b:=by
 have:=zjC (l:=l) h
 unfold pq2
 split
 ·simp only;omega
 ·exact this
theorem zmu {s:PQ} {h:Nat} {l:List Int} :(pq3 s h l).2.length=l.length:=by unfold pq3;split;exact zoc;rfl
theorem zbp:∀ (n:Nat) (s:PQ),s.b≤s.l.length→(pdqL n s).length=s.l.length
 |0,s,_=>rfl
 | n+1,s,hb=>by
  rw [pdqL]
  by_cases h1:s.b - s.a≤12
  ·rw [if_pos h1,zob]
  rw [if_neg h1]
  by_cases h2:s.lim=0
  ·rw [if_pos h2,zmi]
  rw [if_neg h2]
  simp only
  have e1:(pq3 s (pq2 (pq1 s).l s.a s.b).2.2 (pq2 (pq1 s).l s.a s.b).1).2.length=s.l.length:=by rw [zmu,zmt,zpA]
  have g:=ziJ (l:=(pq1 s).l) (a:=s.a) (b:=s.b) (by omega)
  have e2:(pq1 s).b=s.b:=by unfold pq1;split<;>rfl
  generalize pq3 s (pq2 (pq1 s).l s.a s.b).2.2 (pq2 (pq1 s).l s.a s.b).1=r at e1 ⊢
  split
  ·exact e1
  split
  ·have:=zjE (a:=s.a) (b:=s.b) (p:=(pq2 (pq1 s).l s.a s.b).2.1) (l:=r.2) (by omega)
   rw [zbp n _ (by simp only;rw [e2,this.2.2,e1];exact hb)]
   simp only
   rw [this.2.2,e1]
  ·have:=zjF (a:=s.a) (b:=s.b) (p:=(pq2 (pq1 s).l s.a s.b).2.1) (l:=r.2) (by omega)
   generalize prtS s.a s.b (pq2 (pq1 s).l s.a s.b).2.1 r.2=t at this ⊢
   split
   ·have i1:=zbp n ⟨s.a,t.1.1,(pq1 s).lim,true,true,t.2⟩ (by simp only;omega)
    rw [zbp n _ (by simp only at i1 ⊢;omega)]
    simp only at i1 ⊢
    omega
   ·have i1:=zbp n ⟨t.1.1+1,s.b,(pq1 s).lim,true,true,t.2⟩ (by simp only;omega)
    rw [zbp n _ (by simp only at i1 ⊢;omega)]
    simp only at i1 ⊢
    omega
def PdqOk (n:Nat):Prop:=∀ (l:List Int) (N a b lim:Nat),l.length=N→a≤b→b≤N→N≤1000→lim≤1000→b - a≤n→ACall Tryz.prog 141 50 [.osl 5 1 N 0 N,.d (.int .i64 a),.d (.int .i64 b),.d (.int .i64 lim)] [(5,.arr 1 (l.map ckD))] (fun r h'=>r= .tup []∧h'= [(5,.arr 1 ((pdqL n ⟨a,b,lim,true,true,l⟩).map ckD))])
theorem zod (n:Nat) (ih:∀m,m<n→PdqOk m):PdqOk n:=by
 intro l N a b lim hN hab hb hl hli hn
 obtain ⟨P,hP⟩:∃P,P=pdqL n ⟨a,b,lim,true,true,l⟩:=⟨_,rfl⟩
 rw [← hP]
 refine bod Tryz.func141 Tryz.ntmps141 (fun base=>?_)
 refine' zi fx
 refine zt (fun q: { q:Nat×PQ // q.1≤n∧q.2.l.length=N∧q.2.a≤q.2.b∧q.2.b≤N∧q.2.lim≤1000∧q.2.b - q.2.a≤q.1∧P=pdqL q.1 q.2 } =>⟨[(0,true,.osl 5 1 N 0 N),(1,true,.d (.int .i64 q.1.2.a)),(2,true,.d (.int .i64 q.1.2.b)),(3,true,.d (.int .i64 q.1.2.lim)),(8,true,.d (.bool q.1.2.eb)),(9,true,.d (.bool q.1.2.ep))],[(5,.arr 1 (q.1.2.l.map ckD))],some []⟩) (fun q=>q.1.1) ⟨(n,⟨a,b,lim,true,true,l⟩),Nat.le_refl _,hN,hab,hb,hli,hn,hP⟩ le1 (fun q=>?_)
 clear hN hab hb hli hn hP
 obtain ⟨⟨m,⟨a,b,lim,eb,ep,l⟩⟩,hmn,hN,hab,hb,hli,hm,hf⟩:=q
 simp only at hmn hN hab hb hli hm hf ⊢
 have hwba:IntKind.i64.wrap ((b:Int) - a)=((b - a:Nat):Int):=by rw [zf (by omega) (by omega)];omega
 by_cases h12:b - a≤12
 ·have hc:decide (((b - a:Nat):Int)≤12)=true:=decide_eq_true (by omega)
  have hPi:P=insS a b l:=by
   rw [hf]
   cases m with
   |zero=>
    rw [pdqL,insS,show b - (a+1)=0 by omega]
    rfl
   |succ m=>rw [pdqL,if_pos h12]
  refine' zi (zu hwba hc)
  refine (zan (zhI l N a b hN hab hb (by omega)) (by decide) rfl (by simp [AObj.ids]) (by simp [AV.idsL,AV.ids])).mono ?_
  rintro r h' ⟨rfl,rfl⟩
  simp only [go_sem,aeq,aeq.aeqF,simprocAttr,hset]
  refine' zi fx
  all_goals first|omega|(rw [hPi];done)
 have hc:decide (((b - a:Nat):Int)≤12)=false:=decide_eq_false (by omega)
 obtain ⟨m,rfl⟩:∃k,m=k+1:=⟨m - 1,by omega⟩
 rw [pdqL,if_neg h12] at hf
 by_cases hl0:lim=0
 ·have hc0:((lim:Int)==0)=true:=by rw [hl0];rfl
  rw [if_pos hl0] at hf
  refine' zi (zF hwba hc hc0)
  refine (zan (zpu l N a b hN (by omega) hb (by omega)) (by decide) rfl (by simp [AObj.ids]) (by simp [AV.idsL,AV.ids])).mono ?_
  rintro r h' ⟨rfl,rfl⟩
  simp only [go_sem,aeq,aeq.aeqF,simprocAttr,hset]
  refine' zi fx
  all_goals first|omega|(rw [hf];done)
 have hc0:((lim:Int)==0)=false:=by rw [beq_eq_false_iff_ne];omega
 rw [if_neg hl0] at hf
 simp only at hf
 refine' zcK (zP 7) (zF hwba hc hc0)
 obtain ⟨lim1,L1,hs1,hL1,hli1,hlm⟩:∃lim1 L1,pq1 ⟨a,b,lim,eb,ep,l⟩=⟨a,b,lim1,eb,ep,L1⟩∧L1.length=N∧lim1≤1000∧((eb=true∧L1=l∧lim1=lim)∨(eb=false∧L1=zd2 a b l∧lim1=lim - 1)):=by
  cases eb with
  |true=>exact ⟨lim,l,rfl,hN,hli,.inl ⟨rfl,rfl,rfl⟩⟩
  |false=>exact ⟨lim - 1,zd2 a b l,rfl,by rw [zfL,hN],by omega,.inr ⟨rfl,rfl,rfl⟩⟩
 rw [hs1] at hf
 simp only at hf
 refine zdE ⟨[(0,true,.osl 5 1 N 0 N),(1,true,.d (.int .i64 a)),(2,true,.d (.int .i64 b)),(3,true,.d (.int .i64 lim1)),(8,true,.d (.bool eb)),(9,true,.d (.bool ep)),(10,true,.d (.int .i64 (b - a:Nat)))],[(5,.arr 1 (L1.map ckD))],some []⟩ ?_ ?_
 ·rcases hlm with ⟨rfl,rfl,rfl⟩|⟨rfl,h1,h2⟩
  ·refine' zi fx
  ·have hwl:IntKind.i64.wrap ((lim:Int) - 1)=((lim - 1:Nat):Int):=by rw [zf (by omega) (by omega)];omega
   refine' zi fx
   refine (zan (zoa l N a b hN (by omega) hb (by omega)) (by decide) rfl (by simp [AObj.ids]) (by simp [AV.idsL,AV.ids])).mono ?_
   rintro r h' ⟨rfl,rfl⟩
   simp only [go_sem,aeq,aeq.aeqF,simprocAttr,hset]
   refine' zi hwl
   all_goals first|omega|(rw [h1];done)|(rw [h2];done)
 refine' zi fx
 refine (zan (zmj L1 N a b hL1 (by omega) hb (by omega)) (by decide) rfl (by simp [AObj.ids]) (by simp [AV.idsL,AV.ids])).mono ?_
 rintro r h' ⟨rfl,rfl⟩
 simp only [go_sem,aeq,aeq.aeqF,simprocAttr,hset]
 refine' zcK (zP 11) fx
 have hpr:=zjC (l:=L1) (a:=a) (b:=b) (by omega)
 have hqr:=ziJ (l:=L1) (a:=a) (b:=b) (by omega)
 have hql:=zmt (l:=L1) (a:=a) (b:=b)
 obtain ⟨q,hq⟩:∃q,q=pq2 L1 a b:=⟨_,rfl⟩
 rw [← hq] at hf hqr hql
 rw [hL1] at hql
 refine zdE ⟨[(0,true,.osl 5 1 N 0 N),(1,true,.d (.int .i64 a)),(2,true,.d (.int .i64 b)),(3,true,.d (.int .i64 lim1)),(8,true,.d (.bool eb)),(9,true,.d (.bool ep)),(10,true,.d (.int .i64 (b - a:Nat))),(11,true,.d (.int .i64 q.2.1)),(12,true,.d (.int .i64 q.2.2))],[(5,.arr 1 (q.1.map ckD))],some []⟩ ?_ ?_
 ·unfold pq2 at hq
  by_cases h2:hintL L1 a b=2
  ·have hc2:((hintL L1 a b:Int)==2)=true:=by rw [h2];rfl
   rw [if_pos h2] at hq
   have hwb:IntKind.i64.wrap ((b:Int) - 1)=((b - 1:Nat):Int):=by rw [zf (by omega) (by omega)];omega
   have hwp:IntKind.i64.wrap (((pivL L1 a b).1:Int) - (a:Int))=(((pivL L1 a b).1 - a:Nat):Int):=by rw [zf (by omega) (by omega)];omega
   have hwq:IntKind.i64.wrap (((b - 1:Nat):Int) - (((pivL L1 a b).1 - a:Nat):Int))=((b - 1 - ((pivL L1 a b).1 - a):Nat):Int):=by rw [zf (by omega) (by omega)];omega
   refine' zi hc2
   refine (zan (zkE L1 N a b hL1 (by omega) hb (by omega)) (by decide) rfl (by simp [AObj.ids]) (by simp [AV.idsL,AV.ids])).mono ?_
   rintro r h' ⟨rfl,rfl⟩
   simp only [go_sem,aeq,aeq.aeqF,simprocAttr,hset]
   refine' zi (zF hwb hwp hwq)
   all_goals first|omega|(rw [hq];done)|(rw [hq];rfl)
  ·have hc2:((hintL L1 a b:Int)==2)=false:=by rw [beq_eq_false_iff_ne];omega
   rw [if_neg h2] at hq
   refine' zi hc2
   all_goals first|omega|(rw [hq];done)
 have hrl:=zmu (s:=⟨a,b,lim,eb,ep,l⟩) (h:=q.2.2) (l:=q.1)
 rw [hql] at hrl
 obtain ⟨r,hr⟩:∃r,r=pq3 ⟨a,b,lim,eb,ep,l⟩ q.2.2 q.1:=⟨_,rfl⟩
 rw [← hr] at hf hrl
 refine' zcK (zP 15) fx
 have hpis:=zqu q.1 N a b hql (by omega) hb hl
 obtain ⟨z,hz⟩:∃z,z=pisS a b q.1:=⟨_,rfl⟩
 rw [← hz] at hpis
 have hr':r=if pqW ⟨a,b,lim,eb,ep,l⟩ q.2.2 then z else (false,q.1):=by rw [hr,hz];rfl
 by_cases hr1:r.1=true
 ·rw [if_pos hr1] at hf
  have hW:pqW ⟨a,b,lim,eb,ep,l⟩ q.2.2=true:=by
   cases h:pqW ⟨a,b,lim,eb,ep,l⟩ q.2.2 with
   |true=>rfl
   |false=>rw [h,if_neg (by decide)] at hr';rw [hr'] at hr1;cases hr1
  rw [hW,if_pos rfl] at hr'
  unfold pqW at hW
  simp only [Bool.and_eq_true,beq_iff_eq] at hW
  obtain ⟨⟨rfl,rfl⟩,h1⟩:=hW
  have hc1:((q.2.2:Int)==1)=true:=by rw [h1];rfl
  rw [hr'] at hr1 hf
  refine' zi hc1
  refine (zan hpis (by decide) rfl (by simp [AObj.ids]) (by simp [AV.idsL,AV.ids])).mono ?_
  rintro r h' ⟨rfl,rfl⟩
  simp only [go_sem,aeq,aeq.aeqF,simprocAttr,hset,hr1]
  refine' zi fx
  all_goals first|omega|(rw [hf];done)
 rw [if_neg hr1] at hf
 refine zdE ⟨[(0,true,.osl 5 1 N 0 N),(1,true,.d (.int .i64 a)),(2,true,.d (.int .i64 b)),(3,true,.d (.int .i64 lim1)),(8,true,.d (.bool eb)),(9,true,.d (.bool ep)),(10,true,.d (.int .i64 (b - a:Nat))),(11,true,.d (.int .i64 q.2.1))],[(5,.arr 1 (r.2.map ckD))],some []⟩ ?_ ?_
 ·cases hW:pqW ⟨a,b,lim,eb,ep,l⟩ q.2.2 with
  |true=>
   rw [hW,if_pos rfl] at hr'
   unfold pqW at hW
   simp only [Bool.and_eq_true,beq_iff_eq] at hW
   obtain ⟨⟨rfl,rfl⟩,h1⟩:=hW
   have hc1:((q.2.2:Int)==1)=true:=by rw [h1];rfl
   have hr2:z.1=false:=by rw [← hr'];simpa using hr1
   refine' zi hc1
   refine (zan hpis (by decide) rfl (by simp [AObj.ids]) (by simp [AV.idsL,AV.ids])).mono ?_
   rintro r h' ⟨rfl,rfl⟩
   simp only [go_sem,aeq,aeq.aeqF,simprocAttr,hset,hr2]
   refine' zi fx
   all_goals first|omega|(rw [hr'];done)
  | false=>
   rw [hW,if_neg (by decide)] at hr'
   unfold pqW at hW
   cases eb with
   |false=>
    refine' zi fx
    all_goals first|omega|(rw [hr'];done)
   | true=>
    cases ep with
    |false=>
     refine' zi fx
     all_goals first|omega|(rw [hr'];done)
    | true=>
     have hc1:((q.2.2:Int)==1)=false:=by
      rw [beq_eq_false_iff_ne]
      simp only [Bool.and_self,Bool.true_and,beq_eq_false_iff_ne] at hW
      omega
     refine' zi hc1
     all_goals first|omega|(rw [hr'];done)
 have hkl:(r.2.map ckD).length=N:=by rw [zaq,hrl]
 have hrp:=ck_at (l:=r.2) (i:=q.2.1) (by omega)
 have hpe:=zmo r.2 N a b q.2.1 hrl hqr.1 hqr.2 hb hl
 have hpr2:=zjE (a:=a) (b:=b) (p:=q.2.1) (l:=r.2) (by omega)
 have hpt:=zpz r.2 N a b q.2.1 hrl hqr.1 hqr.2 hb hl
 have hpt2:=zjF (a:=a) (b:=b) (p:=q.2.1) (l:=r.2) (by omega)
 obtain ⟨x,hx⟩:∃x,x=peqS a b q.2.1 r.2:=⟨_,rfl⟩
 obtain ⟨y,hy⟩:∃y,y=prtS a b q.2.1 r.2:=⟨_,rfl⟩
 rw [← hx] at hf hpe hpr2
 rw [← hy] at hf hpt hpt2
 have hrw:(r.2.map ckD).getD (IntKind.i64.wrap ((a:Int) - 1)).toNat []= [.int .u64 (r.2.getD (a - 1) 0)]:=by
  rw [zf (by omega) (by omega),show ((a:Int) - 1).toNat=a - 1 by omega]
  exact ck_at (by omega)
 cases hE:pqE a q.2.1 r.2 with
 |true=>
  rw [hE,if_pos rfl] at hf
  unfold pqE at hE
  simp only [Bool.and_eq_true,decide_eq_true_eq,Bool.not_eq_true'] at hE
  obtain ⟨e1,e2⟩:=hE
  have hc0:decide ((0:Int)<(a:Int))=true:=decide_eq_true (by omega)
  have hwa:IntKind.i64.wrap ((a:Int) - 1)=((a - 1:Nat):Int):=by rw [zf (by omega) (by omega)];omega
  have hra:=ck_at (l:=r.2) (i:=a - 1) (by omega)
  refine' walkR (zA hc0 hkl hrp hwa hra e2) (zb zj <| za _)
  all_goals first|omega|skip
  refine (zan hpe (by decide) rfl (by simp [AObj.ids]) (by simp [AV.idsL,AV.ids])).mono ?_
  rintro r' h' ⟨rfl,rfl⟩
  simp only [go_sem,aeq,aeq.aeqF,simprocAttr,hset]
  refine' zi fx
  all_goals first|omega|skip
  exact ⟨⟨(m,⟨x.1,b,lim1,eb,ep,x.2⟩),by simp only;omega,by simp only;rw [hpr2.2.2,hrl],by simp only;omega,hb,hli1,by simp only;omega,hf⟩,by simp only [AS.le,leT,leH,zh,AsgK,AV.le,AV.leL,AObj.le,inH,idsT,idsH,AV.ids,AV.idsL,AV.idsR,AObj.ids,lk,hget,go_sem,aeq,aeq.aeqF,simprocAttr]<;>and_intros<;>rfl,by simp⟩
 | false=>
  rw [hE,if_neg (by decide)] at hf
  unfold pqE at hE
  refine' zcK (zP 17) fx
  refine zdE ⟨[(0,true,.osl 5 1 N 0 N),(1,true,.d (.int .i64 a)),(2,true,.d (.int .i64 b)),(3,true,.d (.int .i64 lim1)),(8,true,.d (.bool eb)),(9,true,.d (.bool ep)),(10,true,.d (.int .i64 (b - a:Nat))),(11,true,.d (.int .i64 q.2.1))],[(5,.arr 1 (r.2.map ckD))],some []⟩ ?_ ?_
  ·by_cases ha0:0<a
   ·have hc0:decide ((0:Int)<(a:Int))=true:=decide_eq_true (by omega)
    have hwa:IntKind.i64.wrap ((a:Int) - 1)=((a - 1:Nat):Int):=by rw [zf (by omega) (by omega)];omega
    have hra:=ck_at (l:=r.2) (i:=a - 1) (by omega)
    rw [decide_eq_true ha0,Bool.true_and] at hE
    have e2:decide (r.2.getD (a - 1) 0<r.2.getD q.2.1 0)=true:=by simpa using hE
    refine' walkR (zA hc0 hkl hrp hwa hra e2) (zb zj <| za _)
    all_goals first|omega|rfl
   ·have hc0:decide ((0:Int)<(a:Int))=false:=decide_eq_false (by omega)
    refine' walkR (z7 hc0 hkl hrp hrw) (zb zj <| za _)
    all_goals first|omega|rfl
  obtain ⟨c,hcm⟩:∃c,c=y.1.1:=⟨_,rfl⟩
  rw [← hcm] at hf hpt hpt2
  have hwl:IntKind.i64.wrap ((c:Int) - (a:Int))=((c - a:Nat):Int):=by rw [zf (by omega) (by omega)];omega
  have hwr:IntKind.i64.wrap ((b:Int) - (c:Int))=((b - c:Nat):Int):=by rw [zf (by omega) (by omega)];omega
  have hw8:IntKind.i64.wrap (((b - a:Nat):Int).tdiv 8)=(((b - a) / 8:Nat):Int):=by rw [Int.tdiv_eq_ediv_of_nonneg (by omega),zf (by omega) (by omega)];omega
  have hwc:=zp (i:=c) (by omega)
  have hyl:y.2.length=N:=by rw [hpt2.2.2,hrl]
  refine' zi fx
  refine (zan hpt (by decide) rfl (by simp [AObj.ids]) (by simp [AV.idsL,AV.ids])).mono ?_
  rintro r' h' ⟨rfl,rfl⟩
  simp only [go_sem,aeq,aeq.aeqF,simprocAttr,hset]
  by_cases hlr:c - a<b - c
  ·have hclr:decide (((c - a:Nat):Int)<((b - c:Nat):Int))=true:=decide_eq_true (by omega)
   rw [if_pos hlr] at hf
   have hdec:decide ((((b - a) / 8:Nat):Int)≤((c - a:Nat):Int))=decide ((b - a) / 8≤c - a):=decide_eq_decide.2 (by omega)
   refine' zi (zad hwl hwr hw8 hclr hdec)
   refine (zan (ih m (by omega) y.2 N a c lim1 hyl (by omega) (by omega) hl hli1 (by omega)) (by decide) rfl (by simp [AObj.ids]) (by simp [AV.idsL,AV.ids])).mono ?_
   rintro r' h' ⟨rfl,rfl⟩
   simp only [go_sem,aeq,aeq.aeqF,simprocAttr,hset]
   refine' zi hwc
   all_goals first|omega|skip
   exact ⟨⟨(m,⟨c+1,b,lim1,decide ((b - a) / 8≤c - a),y.1.2,pdqL m ⟨a,c,lim1,true,true,y.2⟩⟩),by simp only;omega,by simp only;rw [zbp _ _ (by simp only;omega)];exact hyl,by simp only;omega,hb,hli1,by simp only;omega,hf⟩,by simp only [AS.le,leT,leH,zh,AsgK,AV.le,AV.leL,AObj.le,inH,idsT,idsH,AV.ids,AV.idsL,AV.idsR,AObj.ids,lk,hget,go_sem,aeq,aeq.aeqF,simprocAttr]<;>and_intros<;>rfl,by simp⟩
  ·have hclr:decide (((c - a:Nat):Int)<((b - c:Nat):Int))=false:=decide_eq_false (by omega)
   rw [if_neg hlr] at hf
   have hdec:decide ((((b - a) / 8:Nat):Int)≤((b - c:Nat):Int))=decide ((b - a) / 8≤b - c):=decide_eq_decide.2 (by omega)
   refine' zi (zA hwl hwr hw8 hclr hdec hwc)
   refine (zan (ih m (by omega) y.2 N (c+1) b lim1 hyl (by omega) hb hl hli1 (by omega)) (by decide) rfl (by simp [AObj.ids]) (by simp [AV.idsL,AV.ids])).mono ?_
   rintro r' h' ⟨rfl,rfl⟩
   simp only [go_sem,aeq,aeq.aeqF,simprocAttr,hset]
   refine' zi fx
   all_goals first|omega|skip
   exact ⟨⟨(m,⟨a,c,lim1,decide ((b - a) / 8≤b - c),y.1.2,pdqL m ⟨c+1,b,lim1,true,true,y.2⟩⟩),by simp only;omega,by simp only;rw [zbp _ _ (by simp only;omega)];exact hyl,by simp only;omega,by simp only;omega,hli1,by simp only;omega,hf⟩,by simp only [AS.le,leT,leH,zh,AsgK,AV.le,AV.leL,AObj.le,inH,idsT,idsH,AV.ids,AV.idsL,AV.idsR,AObj.ids,lk,hget,go_sem,aeq,aeq.aeqF,simprocAttr]<;>and_intros<;>rfl,by simp⟩
theorem zqv (n:Nat):PdqOk n:=by
 induction n using Nat.strongRecOn with
 |_ n ih=>exact zod n ih
end Go.Aw
