/-
 Sorting numbers: a pivot is chosen.
-/
import Derived.Test.YtgldbfelccddbaaGreatBeg10
set_option maxRecDepth 100000
set_option maxHeartbeats 2000000
set_option linter.unusedSimpArgs false
set_option linter.unusedVariables false
namespace Go.Aw
open Go Go.Proofs
def ord2 (l:List Int) (a b:Nat) (s:Nat):Nat×Nat×Nat:=if l.getD b 0<l.getD a 0 then (b,a,s+1) else (a,b,s)
@[go_sem] def spH (l:List Int) (s:Nat):AHeap:= [(60,.var [.d (.int .i64 s)]),(5,.arr 1 (l.map ckD))]
theorem zeR (l:List Int) (N a b s:Nat) (hN:l.length=N) (ha:a<N) (hb:b<N) (hl:N≤1000000) (hs:s≤1000):ACall Tryz.prog 342 80 [.osl 5 1 N 0 N,.d (.int .i64 a),.d (.int .i64 b),.vp 60 0] (spH l s) (fun r h'=>r= .tup [.d (.int .i64 (ord2 l a b s).1),.d (.int .i64 (ord2 l a b s).2.1)]∧h'=spH l (ord2 l a b s).2.2):=by
 have hkl:(l.map ckD).length=N:=by rw [zaq,hN]
 have hr1:=ck_at (l:=l) (i:=a) (by omega)
 have hr2:=ck_at (l:=l) (i:=b) (by omega)
 have hws:=zp (i:=s) (by omega)
 refine bod Tryz.func342 Tryz.ntmps342 (fun base=>?_)
 cases hx:decide (l.getD b 0<l.getD a 0) with
 |true=>
  rw [ord2,if_pos (of_decide_eq_true hx)]
  refine' walkW (zad hkl hr1 hr2 hx hws) (zb zj <| za _)
  all_goals first|omega|trace_state
 |false=>
  rw [ord2,if_neg (of_decide_eq_false hx)]
  refine' walkW (z7 hkl hr1 hr2 hx) (zb zj <| za _)
  all_goals first|omega|trace_state
theorem sp_cl (l:List Int) (s:Nat):inH (spH l s) (idsH (spH l s)):=by simp [spH,idsH,AObj.ids,AV.idsL,AV.ids,AV.idsR,inH]
def med3 (l:List Int) (a b c s:Nat):Nat×Nat:=
 ((ord2 l (ord2 l a b s).1 (ord2 l (ord2 l a b s).2.1 c (ord2 l a b s).2.2).1 (ord2 l (ord2 l a b s).2.1 c (ord2 l a b s).2.2).2.2).2.1,(ord2 l (ord2 l a b s).1 (ord2 l (ord2 l a b s).2.1 c (ord2 l a b s).2.2).1 (ord2 l (ord2 l a b s).2.1 c (ord2 l a b s).2.2).2.2).2.2)
theorem zdg {l:List Int} {a b s:Nat} (P:Nat→Prop) (ha:P a) (hb:P b):P (ord2 l a b s).1∧P (ord2 l a b s).2.1∧(ord2 l a b s).2.2≤s+1:=by
 unfold ord2
 split
 ·exact ⟨hb,ha,Nat.le_refl _⟩
 ·exact ⟨ha,hb,Nat.le_succ _⟩
theorem zjB {l:List Int} {a b c s:Nat} (P:Nat→Prop) (ha:P a) (hb:P b) (hc:P c):P (med3 l a b c s).1∧(med3 l a b c s).2≤s+3:=by
 obtain ⟨h1,h2,h3⟩:=zdg (l:=l) (s:=s) P ha hb
 obtain ⟨h4,h5,h6⟩:=zdg (l:=l) (s:=(ord2 l a b s).2.2) P h2 hc
 obtain ⟨h7,h8,h9⟩:=zdg (l:=l) (s:=(ord2 l (ord2 l a b s).2.1 c (ord2 l a b s).2.2).2.2) P h1 h4
 exact ⟨h8,by unfold med3;omega⟩
theorem zhK (l:List Int) (N a b c s:Nat) (hN:l.length=N) (ha:a<N) (hb:b<N) (hc:c<N) (hl:N≤1000000) (hs:s≤900):ACall Tryz.prog 279 80 [.osl 5 1 N 0 N,.d (.int .i64 a),.d (.int .i64 b),.d (.int .i64 c),.vp 60 0] (spH l s) (fun r h'=>r= .d (.int .i64 (med3 l a b c s).1)∧h'=spH l (med3 l a b c s).2):=by
 obtain ⟨g1,g2,g3⟩:=zdg (l:=l) (s:=s) (· <N) ha hb
 have c1:=zeR l N a b s hN ha hb hl (by omega)
 rw [med3]
 obtain ⟨A,hA⟩:∃A,A=ord2 l a b s:=⟨_,rfl⟩
 rw [← hA] at g1 g2 g3 c1 ⊢
 obtain ⟨g4,g5,g6⟩:=zdg (l:=l) (s:=A.2.2) (· <N) g2 hc
 have c2:=zeR l N A.2.1 c A.2.2 hN g2 hc hl (by omega)
 obtain ⟨B,hB⟩:∃B,B=ord2 l A.2.1 c A.2.2:=⟨_,rfl⟩
 rw [← hB] at g4 g5 g6 c2 ⊢
 have c3:=zeR l N A.1 B.1 B.2.2 hN g1 g4 hl (by omega)
 obtain ⟨C,hC⟩:∃C,C=ord2 l A.1 B.1 B.2.2:=⟨_,rfl⟩
 rw [← hC] at c3 ⊢
 refine bod Tryz.func279 Tryz.ntmps279 (fun base=>?_)
 refine' zc fx
 refine (zaj c1 rfl ⟨rfl,rfl,trivial⟩ (sp_cl _ _) (by simp [inH,spH,hget,AV.idsL,AV.ids]) rfl).mono ?_
 rintro r h' ⟨rfl,rfl⟩
 simp only [go_sem,aeq,aeq.aeqF,simprocAttr,hup]
 refine' zc fx
 refine (zaj c2 rfl ⟨rfl,rfl,trivial⟩ (sp_cl _ _) (by simp [inH,spH,hget,AV.idsL,AV.ids]) rfl).mono ?_
 rintro r h' ⟨rfl,rfl⟩
 simp only [go_sem,aeq,aeq.aeqF,simprocAttr,hup]
 refine' zc fx
 refine (zaj c3 rfl ⟨rfl,rfl,trivial⟩ (sp_cl _ _) (by simp [inH,spH,hget,AV.idsL,AV.ids]) rfl).mono ?_
 rintro r h' ⟨rfl,rfl⟩
 simp only [go_sem,aeq,aeq.aeqF,simprocAttr,hup]
 refine' zc fx
 all_goals trace_state
end Go.Aw
