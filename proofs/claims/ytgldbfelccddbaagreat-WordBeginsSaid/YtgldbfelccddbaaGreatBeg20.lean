/-
 Sorting numbers: a pivot is chosen.
-/
import Derived.Test.YtgldbfelccddbaaGreatBeg14
set_option maxRecDepth 100000
set_option maxHeartbeats 2000000
set_option linter.unusedSimpArgs false
set_option linter.unusedVariables false
namespace Go.Aw
open Go Go.Proofs
theorem zcN (l:List Int) (N a s:Nat) (hN:l.length=N) (h1:1≤a) (h2:a+1<N) (hl:N≤1000000) (hs:s≤900):ACall Tryz.prog 278 80 [.osl 5 1 N 0 N,.d (.int .i64 a),.vp 60 0] (spH l s) (fun r h'=>r= .d (.int .i64 (med3 l (a - 1) a (a+1) s).1)∧h'=spH l (med3 l (a - 1) a (a+1) s).2):=by
 have c1:=zhK l N (a - 1) a (a+1) s hN (by omega) (by omega) (by omega) hl hs
 have hw1:IntKind.i64.wrap ((a:Int) - 1)=((a - 1:Nat):Int):=by rw [zf (by omega) (by omega)];omega
 have hw2:=zp (i:=a) (by omega)
 refine bod Tryz.func278 Tryz.ntmps278 (fun base=>?_)
 refine' zc (zu hw1 hw2)
 refine (zaj c1 rfl ⟨rfl,rfl,trivial⟩ (sp_cl _ _) (by simp [inH,spH,hget,AV.idsL,AV.ids]) rfl).mono ?_
 rintro r h' ⟨rfl,rfl⟩
 simp only [go_sem,aeq,aeq.aeqF,simprocAttr,hup]
 refine' zc fx
def pv1 (l:List Int) (n i s:Nat):Nat×Nat:=if 50≤n then med3 l (i - 1) i (i+1) s else (i,s)
def pivL (l:List Int) (a b:Nat):Nat×Nat:=
 if 8≤b - a then med3 l (pv1 l (b - a) (a+(b - a) / 4) 0).1 (pv1 l (b - a) (a+(b - a) / 4*2) (pv1 l (b - a) (a+(b - a) / 4) 0).2).1 (pv1 l (b - a) (a+(b - a) / 4*3) (pv1 l (b - a) (a+(b - a) / 4*2) (pv1 l (b - a) (a+(b - a) / 4) 0).2).2).1 (pv1 l (b - a) (a+(b - a) / 4*3) (pv1 l (b - a) (a+(b - a) / 4*2) (pv1 l (b - a) (a+(b - a) / 4) 0).2).2).2
 else (a+(b - a) / 4*2,0)
def hintL (l:List Int) (a b:Nat):Nat:=if (pivL l a b).2=0 then 1 else if (pivL l a b).2=12 then 2 else 0
theorem zdJ {l:List Int} {n i s a b:Nat} (h:50≤n→a+1≤i∧i+1<b) (hi:a≤i∧i<b):(a≤(pv1 l n i s).1∧(pv1 l n i s).1<b)∧(pv1 l n i s).2≤s+3:=by
 unfold pv1
 split
 ·rename_i hn
  obtain ⟨h1,h2⟩:=h hn
  obtain ⟨g1,g2⟩:=zjB (l:=l) (s:=s) (a:=i - 1) (b:=i) (c:=i+1) (fun x=>a≤x∧x<b) (by omega) (by omega) (by omega)
  exact ⟨g1,g2⟩
 ·exact ⟨hi,by simp⟩
theorem zjC {l:List Int} {a b:Nat} (h:8≤b - a):a≤(pivL l a b).1∧(pivL l a b).1<b:=by
 rw [pivL,if_pos h]
 obtain ⟨g1,g2⟩:=zdJ (l:=l) (n:=b - a) (i:=a+(b - a) / 4) (s:=0) (a:=a) (b:=b) (by omega) (by omega)
 obtain ⟨g3,g4⟩:=zdJ (l:=l) (n:=b - a) (i:=a+(b - a) / 4*2) (s:=(pv1 l (b - a) (a+(b - a) / 4) 0).2) (a:=a) (b:=b) (by omega) (by omega)
 obtain ⟨g5,g6⟩:=zdJ (l:=l) (n:=b - a) (i:=a+(b - a) / 4*3) (s:=(pv1 l (b - a) (a+(b - a) / 4*2) (pv1 l (b - a) (a+(b - a) / 4) 0).2).2) (a:=a) (b:=b) (by omega) (by omega)
 exact (zjB (fun x=>a≤x∧x<b) g1 g3 g5).1
theorem zmj (l:List Int) (N a b:Nat) (hN:l.length=N) (h8:8≤b - a) (hb:b≤N) (hl:N≤1000000):ACall Tryz.prog 208 60 [.osl 5 1 N 0 N,.d (.int .i64 a),.d (.int .i64 b)] [(5,.arr 1 (l.map ckD))] (fun r h'=>r= .tup [.d (.int .i64 (pivL l a b).1),.d (.int .i64 (hintL l a b))]∧h'= [(5,.arr 1 (l.map ckD))]):=by
 obtain ⟨n,hn⟩:∃n,n=b - a:=⟨_,rfl⟩
 obtain ⟨q,hq⟩:∃q,q=n / 4:=⟨_,rfl⟩
 obtain ⟨i,hi⟩:∃i,i=a+q:=⟨_,rfl⟩
 obtain ⟨j,hj⟩:∃j,j=a+q*2:=⟨_,rfl⟩
 obtain ⟨k,hk⟩:∃k,k=a+q*3:=⟨_,rfl⟩
 have hw1:IntKind.i64.wrap ((b:Int) - a)=(n:Int):=by rw [zf (by omega) (by omega)];omega
 have hw2:IntKind.i64.wrap ((n:Int).tdiv 4)=(q:Int):=by rw [Int.tdiv_eq_ediv_of_nonneg (by omega),zf (by omega) (by omega)];omega
 have hw3:IntKind.i64.wrap ((q:Int)*1)=(q:Int):=by rw [zf (by omega) (by omega)];omega
 have hw4:IntKind.i64.wrap ((q:Int)*2)=((q*2:Nat):Int):=by rw [zf (by omega) (by omega)];omega
 have hw5:IntKind.i64.wrap ((q:Int)*3)=((q*3:Nat):Int):=by rw [zf (by omega) (by omega)];omega
 have hw6:IntKind.i64.wrap ((a:Int)+(q:Int))=(i:Int):=by rw [zf (by omega) (by omega)];omega
 have hw7:IntKind.i64.wrap ((a:Int)+((q*2:Nat):Int))=(j:Int):=by rw [zf (by omega) (by omega)];omega
 have hw8:IntKind.i64.wrap ((a:Int)+((q*3:Nat):Int))=(k:Int):=by rw [zf (by omega) (by omega)];omega
 have hP:pivL l a b=med3 l (pv1 l n i 0).1 (pv1 l n j (pv1 l n i 0).2).1 (pv1 l n k (pv1 l n j (pv1 l n i 0).2).2).1 (pv1 l n k (pv1 l n j (pv1 l n i 0).2).2).2:=by rw [pivL,if_pos h8,← hn,← hq,← hi,← hj,← hk]
 obtain ⟨g1,g2⟩:=zdJ (l:=l) (n:=n) (i:=i) (s:=0) (a:=0) (b:=N) (by omega) (by omega)
 obtain ⟨A,hA⟩:∃A,A=pv1 l n i 0:=⟨_,rfl⟩
 rw [← hA] at g1 g2 hP
 obtain ⟨g3,g4⟩:=zdJ (l:=l) (n:=n) (i:=j) (s:=A.2) (a:=0) (b:=N) (by omega) (by omega)
 obtain ⟨B,hB⟩:∃B,B=pv1 l n j A.2:=⟨_,rfl⟩
 rw [← hB] at g3 g4 hP
 obtain ⟨g5,g6⟩:=zdJ (l:=l) (n:=n) (i:=k) (s:=B.2) (a:=0) (b:=N) (by omega) (by omega)
 obtain ⟨C,hC⟩:∃C,C=pv1 l n k B.2:=⟨_,rfl⟩
 rw [← hC] at g5 g6 hP
 have c4:=zhK l N A.1 B.1 C.1 C.2 hN g1.2 g3.2 g5.2 hl (by omega)
 rw [← hP] at c4
 have hH:hintL l a b=if (pivL l a b).2=0 then 1 else if (pivL l a b).2=12 then 2 else 0:=rfl
 obtain ⟨V,hV⟩:∃V,V=pivL l a b:=⟨_,rfl⟩
 obtain ⟨H,hHv⟩:∃H,H=hintL l a b:=⟨_,rfl⟩
 rw [← hV,← hHv] at hH
 rw [← hV] at c4
 rw [← hV,← hHv]
 have hH1:V.2=0→H=1:=fun h=>by rw [hH,if_pos h]
 have hH2:V.2≠0→V.2=12→H=2:=fun h g=>by rw [hH,if_neg h,if_pos g]
 have hH0:V.2≠0→V.2≠12→H=0:=fun h g=>by rw [hH,if_neg h,if_neg g]
 have e8:decide ((8:Int)≤(n:Int))=true:=decide_eq_true (by omega)
 refine za7 (fun i=>decide (i=5)) ?_
 refine bod Tryz.func208 Tryz.ntmps208 (fun base=>?_)
 refine' zar (zP 6) (zA hw1 hw2 hw3 hw4 hw5 (zF hw6 hw7 hw8))
 cases e50:decide ((50:Int)≤(n:Int)) with
 |true=>
  have h50:50≤n:=by have:=of_decide_eq_true e50;omega
  have d1:=zcN l N i 0 hN (by omega) (by omega) hl (by omega)
  have d2:=zcN l N j A.2 hN (by omega) (by omega) hl (by omega)
  have d3:=zcN l N k B.2 hN (by omega) (by omega) hl (by omega)
  rw [pv1,if_pos h50] at hA hB hC
  rw [← hA] at d1
  rw [← hB] at d2
  rw [← hC] at d3
  refine' zc (zu e8 e50)
  refine (zaj d1 rfl ⟨rfl,rfl,trivial⟩ (sp_cl _ _) (by simp [inH,spH,hget,AV.idsL,AV.ids]) rfl).mono ?_
  rintro r h' ⟨rfl,rfl⟩
  simp only [go_sem,aeq,aeq.aeqF,simprocAttr,hup]
  refine' zc fx
  refine (zaj d2 rfl ⟨rfl,rfl,trivial⟩ (sp_cl _ _) (by simp [inH,spH,hget,AV.idsL,AV.ids]) rfl).mono ?_
  rintro r h' ⟨rfl,rfl⟩
  simp only [go_sem,aeq,aeq.aeqF,simprocAttr,hup]
  refine' zc fx
  refine (zaj d3 rfl ⟨rfl,rfl,trivial⟩ (sp_cl _ _) (by simp [inH,spH,hget,AV.idsL,AV.ids]) rfl).mono ?_
  rintro r h' ⟨rfl,rfl⟩
  simp only [go_sem,aeq,aeq.aeqF,simprocAttr,hup]
  refine' zc fx
  refine (zaj c4 rfl ⟨rfl,rfl,trivial⟩ (sp_cl _ _) (by simp [inH,spH,hget,AV.idsL,AV.ids]) rfl).mono ?_
  rintro r h' ⟨rfl,rfl⟩
  simp only [go_sem,aeq,aeq.aeqF,simprocAttr,hup]
  refine' zc fx
  all_goals first|(rw [hH1 (by rw [beq_iff_eq] at hc;omega)];rfl)|(rw [hH2 (by rename_i h0;rw [beq_eq_false_iff_ne] at h0;omega) (by rw [beq_iff_eq] at hc;omega)];rfl)|(rw [hH0 (by rename_i h0;rw [beq_eq_false_iff_ne] at h0;omega) (by rw [beq_eq_false_iff_ne] at hc;omega)];rfl)
 |false=>
  have h50:¬50≤n:=by have:=of_decide_eq_false e50;omega
  rw [pv1,if_neg h50] at hA hB hC
  rw [hA] at hB
  rw [hB] at hC
  rw [hA,hB,hC] at c4
  simp only at c4
  refine' zc (zu e8 e50)
  refine (zaj c4 rfl ⟨rfl,rfl,trivial⟩ (sp_cl _ _) (by simp [inH,spH,hget,AV.idsL,AV.ids]) rfl).mono ?_
  rintro r h' ⟨rfl,rfl⟩
  simp only [go_sem,aeq,aeq.aeqF,simprocAttr,hup]
  refine' zc fx
  all_goals first|(rw [hH1 (by rw [beq_iff_eq] at hc;omega)];rfl)|(rw [hH2 (by rename_i h0;rw [beq_eq_false_iff_ne] at h0;omega) (by rw [beq_iff_eq] at hc;omega)];rfl)|(rw [hH0 (by rename_i h0;rw [beq_eq_false_iff_ne] at h0;omega) (by rw [beq_eq_false_iff_ne] at hc;omega)];rfl)
end Go.Aw
