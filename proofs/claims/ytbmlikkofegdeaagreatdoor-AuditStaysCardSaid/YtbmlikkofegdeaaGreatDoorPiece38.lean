/-
  Parts of the proof: ReachA, ReachB, CutA, StayF (short names; the readable texts lie in the repo, under wip).
-/
import Derived.Test.YtbmlikkofegdeaaGreatDoorPiece30
import Derived.Test.YtbmlikkofegdeaaGreatDoorPiece17
import Derived.Test.YtbmlikkofegdeaaGreatDoorPiece31
import Derived.Test.YtbmlikkofegdeaaGreatDoorPiece33
import Derived.Test.YtbmlikkofegdeaaGreatDoorPiece32
import Derived.Test.YtbmlikkofegdeaaGreatDoorPiece34
import Derived.Test.YtbmlikkofegdeaaGreatDoorPiece36
set_option maxRecDepth 100000
set_option maxHeartbeats 2000000
set_option linter.unusedSimpArgs false
set_option linter.unusedVariables false
namespace Go.Aw
open Go Go.Proofs
theorem ACall.low {P:Program} {f:FuncId} {args:List AV} {fl fl':Nat} {h:AHeap} {K:AV->AHeap->Prop} (hc:ACall P f fl args h K) (hle:fl'<=fl):ACall P f fl' args h K:=by refine ⟨hc.1,λE w vs hs hr=>(hc.2 E w vs hs hr).mono ?_⟩;rintro e w' ⟨v,E',r,h',h1,h2,h3,h4,h5⟩;exact ⟨v,E',r,h',h1,h2,h3,h4,⟨h5.os,h5.tape,h5.output,h5.size,h5.keep,h5.own,h5.m,h5.n,λi hi=>h5.go i (by omega)⟩⟩
def rlJ (d:Disk) (p:Plan) (t:Int):Nat->Nat->List Int×Int
 |0,_=>([],0)
 |m+1,k=>if (eget d p t k).2≠0 then ([],(eget d p t k).2) else if (eget d p t k).1.kind=1 then ((eget d p t k).1.loc::(rlJ d p t m (k+1)).1,(rlJ d p t m (k+1)).2) else rlJ d p t m (k+1)
def rlI (d:Disk) (p:Plan) (l1:Int):Nat->Nat->List Int×Int
 |0,_=>([],0)
 |m+1,i=>if (eget d p l1 i).2≠0 then ([],(eget d p l1 i).2) else if (eget d p l1 i).1.kind=2 then ([],14) else if (eget d p l1 i).1.kind=0 then rlI d p l1 m (i+1)
  else if (rlJ d p (eget d p l1 i).1.loc 16 0).2≠0 then ((eget d p l1 i).1.loc::(rlJ d p (eget d p l1 i).1.loc 16 0).1,(rlJ d p (eget d p l1 i).1.loc 16 0).2)
  else ((eget d p l1 i).1.loc::((rlJ d p (eget d p l1 i).1.loc 16 0).1++(rlI d p l1 m (i+1)).1),(rlI d p l1 m (i+1)).2)
theorem znd {d:Disk} {p:Plan} {t:Int} :∀ (m k:Nat) (l:List Int),zb6 d p t m k l=if (rlJ d p t m k).2≠0 then ([],(rlJ d p t m k).2) else (l++(rlJ d p t m k).1,0)
 |0,k,l=>by simp [zb6,rlJ]
 | m+1,k,l=>by
  rw [zb6,rlJ,show ((k:Int)+1)=((k+1:Nat):Int) by omega,znd m (k+1)]
  by_cases h1:(eget d p t k).2=0<;>by_cases h2:(eget d p t k).1.kind=1<;>
   simp only [h1,h2,ne_eq,not_true_eq_false,not_false_eq_true,if_true,if_false,List.append_assoc,List.singleton_append]
theorem zne {d:Disk} {p:Plan} {l1:Int} :∀ (m i:Nat) (l:List Int),zcF d p l1 m i l=if (rlI d p l1 m i).2≠0 then ([],(rlI d p l1 m i).2) else (l++(rlI d p l1 m i).1,0)
 |0,i,l=>by simp [zcF,rlI]
 | m+1,i,l=>by
  rw [zcF,rlI,show ((i:Int)+1)=((i+1:Nat):Int) by omega];have hJ:=znd (d:=d) (p:=p) (t:=(eget d p l1 i).1.loc) 16 0 (l++ [(eget d p l1 i).1.loc]);rw [show ((0:Nat):Int)=0 from rfl] at hJ
  by_cases h1:(eget d p l1 i).2=0<;>by_cases h2:(eget d p l1 i).1.kind=2<;>by_cases h3:(eget d p l1 i).1.kind=0<;>by_cases h4:(rlJ d p (eget d p l1 i).1.loc 16 0).2=0<;>
   simp only [h1,h2,h3,h4,hJ,zne m (i+1),ne_eq,not_true_eq_false,not_false_eq_true,if_true,if_false,List.append_assoc,List.singleton_append,List.cons_append,List.nil_append,show ¬(0:Int)=2 by decide,show ¬(14:Int)=0 by decide,show ¬(2:Int)=0 by decide]
theorem zpX {d:Disk} {p:Plan} {l1:Int} :reach d p l1=if (rlI d p l1 4 0).2≠0 then ([],(rlI d p l1 4 0).2) else ((rlI d p l1 4 0).1,0):=by have:=zne (d:=d) (p:=p) (l1:=l1) 4 0 [];rw [show ((0:Nat):Int)=0 from rfl,List.nil_append] at this;exact this
theorem ztI {d:Disk} {p:Plan} {t:Int} :∀ (m k:Nat),(rlJ d p t m k).1.length<=m
 |0,k=>Nat.le_refl _
 |m+1,k=>by
  have:=ztI (d:=d) (p:=p) (t:=t) m (k+1);rw [rlJ];repeat' split
  all_goals first|exact Nat.zero_le _|(simp only [List.length_cons];omega)|omega
theorem ztJ {d:Disk} {p:Plan} {l1:Int} :∀ (m i:Nat),(rlI d p l1 m i).1.length<=17*m
 |0,k=>Nat.le_refl _
 |m+1,k=>by
  have h1:=ztJ (d:=d) (p:=p) (l1:=l1) m (k+1);have h2:=ztI (d:=d) (p:=p) (t:=(eget d p l1 k).1.loc) 16 0;rw [rlI];repeat' split
  all_goals first|exact Nat.zero_le _|(simp only [List.length_cons,List.length_append];omega)|omega
def intI (k:Int):List AV:= [.d (.int .i64 k)]
@[go_sem] abbrev hRea (d:Disk) (p:Plan) (l1 e:Int):AHeap:= [(5,.var (wkP p ⟨0,0⟩ d e)),(11,.var [.d (.int .i64 l1)]),(10,.var [.vp 5 0])]
theorem znf (d:Disk) (p:Plan) (l1:Int) (h:DP d p):AIter Tryz.prog 254 20 [] [.vp 10 0,.vp 11 0] (hRea d p l1 0) ((rlI d p l1 4 0).1.map intI) (fun gg h'=>(∀xs,gg=some xs→xs=(rlI d p l1 4 0).1.map intI)∧∃e,h'=hRea d p l1 e∧(gg≠none→e=(rlI d p l1 4 0).2)):=by
 obtain ⟨L,hL⟩:∃L,L=rlI d p l1 4 0:=⟨_,rfl⟩
 rw [← hL]
 refine itr Tryz.func254 Tryz.ntmps254 (fun base y=>?_)
 refine' z7 fx
 refine zq (fun q: { q:Nat×List (List AV) // q.1≤4∧q.2++(rlI d p l1 (4 - q.1) q.1).1.map intI=L.1.map intI∧(rlI d p l1 (4 - q.1) q.1).2=L.2 } =>⟨[(0,true,.fn (.yield y.yl) [] []),(1,true,.vp 10 0),(2,true,.vp 11 0),(8,true,.d (.int .i64 q.1.1))],hRea d p l1 0,some q.1.2⟩) (fun q=>4 - q.1.1) ⟨(0,[]),by show (0:Nat)≤4;omega,by rw [hL];rfl,by rw [hL];rfl⟩ (by simp only [AS.le,leT,leH,zf,AsgK,AV.le,AV.leL,AObj.le,inH,idsT,idsH,AV.ids,AV.idsL,AV.idsR,AObj.ids,lk,hget,go_sem,aeq,aeq.aeqF,simprocAttr,hRea]<;>and_intros<;>rfl) (fun q=>?_)
 obtain ⟨⟨i,xs⟩,hi,hf,hfe⟩:=q
 simp only at hi hf hfe ⊢
 rcases Nat.lt_or_ge i 4 with hlt|hge
 ·have hcmp:decide ((i:Int)<4)=true:=decide_eq_true (by omega)
  have hwi:=zr (i:=i) (by omega)
  rw [zhm hlt,rlI] at hf hfe
  obtain ⟨X,hX⟩:∃X,X=eget d p l1 i:=⟨_,rfl⟩
  have hwg:wget d ⟨p,0⟩ l1 i=(X.1,⟨p,X.2⟩):=by rw [wget,if_neg (by simp),hX]
  rw [← hX] at hf hfe
  refine' z7 hcmp
  refine ((zpD ⟨0,0⟩ d ⟨p,0⟩ l1 i h).one (fl':=20) rfl rfl (zJ rfl) rfl (by simp [AObj.ids,AV.idsL,AV.ids,wkP]) (by simp [AV.idsL,AV.ids]) (by omega)).mono ?_
  rintro r h' ⟨ob',⟨rfl,rfl⟩,rfl⟩
  simp only [hwg]
  simp only [go_sem,aeq,aeq.aeqF,simprocAttr]
  refine hK _ ?_
  clear hK K
  by_cases he:X.2=0
  ·have hb:(X.2==0)=true:=by simpa using he
   have hb2:(X.2 !=0)=false:=by simpa using he
   rw [if_neg (by simpa using he)] at hf hfe
   have hk3:=(zbm (zep (by rw [← hX];exact he)).1).1
   rw [← hX] at hk3
   by_cases h2:X.1.kind=2
   ·have hk2:(X.1.kind==2)=true:=by simpa using h2
    rw [if_pos h2] at hf hfe
    refine' z7 (zB hb hb2 hk2)
    ·rintro zs rfl
     rw [← hf]
     simp
    ·exact ⟨14,rfl,hfe⟩
   have hk2:(X.1.kind==2)=false:=by simpa using h2
   rw [if_neg h2] at hf hfe
   by_cases h0:X.1.kind=0
   ·have hk0:(X.1.kind==1)=false:=by simp;omega
    rw [if_pos h0] at hf hfe
    refine' z7 (zah hb hb2 hk2 hk0)
    refine zq (fun _:Unit=>⟨[(0,true,.fn (.yield y.yl) [] []),(1,true,.vp 10 0),(2,true,.vp 11 0),(5,true,.vp 20 0),(6,true,.d (.int .i64 0)),(8,true,.d (.int .i64 i))],(20,.var [.d (.int .i64 X.1.kind),.d (.int .i64 X.1.loc)])::hRea d p l1 0,some xs⟩) (fun _=>0) () (by simp only [AS.le,leT,leH,zf,AsgK,AV.le,AV.leL,AObj.le,inH,idsT,idsH,AV.ids,AV.idsL,AV.idsR,AObj.ids,lk,hget,go_sem,aeq,aeq.aeqF,simprocAttr,hRea,he]<;>and_intros<;>rfl) (fun _=>?_)
    refine' z7 hk0
    exact ⟨⟨(i+1,xs),by show i+1≤4;omega,hf,hfe⟩,by simp only [AS.le,leT,leH,zf,AsgK,AV.le,AV.leL,AObj.le,inH,idsT,idsH,AV.ids,AV.idsL,AV.idsR,AObj.ids,lk,hget,go_sem,aeq,aeq.aeqF,simprocAttr,hwi,hRea],by simp;omega⟩
   have h1:X.1.kind=1:=by omega
   have hk1:(X.1.kind==1)=true:=by simpa using h1
   rw [if_neg h0] at hf hfe
   obtain ⟨loc,hloc⟩:∃loc,loc=X.1.loc:=⟨_,rfl⟩
   rw [← hloc] at hf hfe
   obtain ⟨J0,hJ0⟩:∃J0,J0=rlJ d p loc 16 0:=⟨_,rfl⟩
   obtain ⟨R,hR⟩:∃R,R=rlI d p l1 (4 - (i+1)) (i+1):=⟨_,rfl⟩
   rw [← hJ0,← hR] at hf hfe
   obtain ⟨S,hS⟩:∃S:List Int,S=if J0.2≠0 then [] else R.1:=⟨_,rfl⟩
   have hf1:xs++intI loc::((J0.1.map intI)++S.map intI)=L.1.map intI:=by
    rw [← hf,hS]
    by_cases h4:J0.2=0
    ·rw [if_neg (by simpa using h4),if_neg (by simpa using h4)];simp
    ·rw [if_pos h4,if_pos h4];simp
   have hf2:J0.2≠0→J0.2=L.2∧S= []:=fun h4=>by rw [if_pos h4] at hfe hS;exact ⟨hfe,hS⟩
   have hf3:J0.2=0→R.2=L.2∧S=R.1:=fun h4=>by rw [if_neg (by simpa using h4)] at hfe hS;exact ⟨hfe,hS⟩
   have hpr:(xs++ [[.d (.int .i64 loc)]])<+:L.1.map intI:=⟨(J0.1.map intI)++S.map intI,by rw [← hf1];simp [intI]⟩
   clear hf hfe
   refine' z7 (zL hb hb2 hk2 hk1 hloc.symm he)
   ·refine zq (fun q: { q:Nat×List (List AV) // q.1≤16∧q.2++((rlJ d p loc (16 - q.1) q.1).1.map intI++S.map intI)=L.1.map intI∧(rlJ d p loc (16 - q.1) q.1).2=J0.2 } =>⟨[(0,true,.fn (.yield y.yl) [] []),(1,true,.vp 10 0),(2,true,.vp 11 0),(5,true,.vp 20 0),(6,true,.d (.int .i64 q.1.1)),(8,true,.d (.int .i64 i))],(20,.var [.d (.int .i64 X.1.kind),.d (.int .i64 loc)])::hRea d p l1 0,some q.1.2⟩) (fun q=>16 - q.1.1) ⟨(0,xs++ [[.d (.int .i64 loc)]]),by show (0:Nat)≤16;omega,by rw [← hf1];simp [intI,hJ0],by rw [hJ0];rfl⟩ (by simp only [AS.le,leT,leH,zf,AsgK,AV.le,AV.leL,AObj.le,inH,idsT,idsH,AV.ids,AV.idsL,AV.idsR,AObj.ids,lk,hget,go_sem,aeq,aeq.aeqF,simprocAttr,hRea,he]<;>and_intros<;>rfl) (fun q=>?_)
    obtain ⟨⟨j,ys⟩,hj,hg,hge2⟩:=q
    simp only at hj hg hge2 ⊢
    rcases Nat.lt_or_ge j 16 with hjl|hjg
    ·have hcj:decide ((j:Int)<16)=true:=decide_eq_true (by omega)
     have hwj:=zr (i:=j) (by omega)
     rw [zhm hjl,rlJ] at hg hge2
     obtain ⟨Y,hY⟩:∃Y,Y=eget d p loc j:=⟨_,rfl⟩
     have hwg2:wget d ⟨p,0⟩ loc j=(Y.1,⟨p,Y.2⟩):=by rw [wget,if_neg (by simp),hY]
     rw [← hY] at hg hge2
     refine' z7 (zn hcj hk1)
     refine ((zpD ⟨0,0⟩ d ⟨p,0⟩ loc j h).one (fl':=20) rfl rfl (zJ rfl) rfl (by simp [AObj.ids,AV.idsL,AV.ids,wkP]) (by simp [AV.idsL,AV.ids]) (by omega)).mono ?_
     rintro r h' ⟨ob',⟨rfl,rfl⟩,rfl⟩
     simp only [hwg2]
     simp only [go_sem,aeq,aeq.aeqF,simprocAttr]
     refine hK _ ?_
     clear hK K
     by_cases hye:Y.2=0
     ·have hyb:(Y.2 !=0)=false:=by simpa using hye
      rw [if_neg (by simpa using hye)] at hg hge2
      by_cases hy1:Y.1.kind=1
      ·have hyk:(Y.1.kind==1)=true:=by simpa using hy1
       rw [if_pos hy1] at hg hge2
       have hpr2:(ys++ [[.d (.int .i64 Y.1.loc)]])<+:L.1.map intI:=⟨((rlJ d p loc (16 - (j+1)) (j+1)).1.map intI)++S.map intI,by rw [← hg];simp [intI]⟩
       refine' z7 (zB hyb hyk hye)
       ·exact ⟨⟨(j+1,ys++ [[.d (.int .i64 Y.1.loc)]]),by show j+1≤16;omega,by rw [← hg];simp [intI],hge2⟩,by simp only [AS.le,leT,leH,zf,AsgK,AV.le,AV.leL,AObj.le,inH,idsT,idsH,AV.ids,AV.idsL,AV.idsR,AObj.ids,lk,hget,go_sem,aeq,aeq.aeqF,simprocAttr,hwj,hRea],by simp;omega⟩
       exact ⟨0,rfl⟩
      ·have hyk:(Y.1.kind==1)=false:=by simpa using hy1
       rw [if_neg hy1] at hg hge2
       refine' z7 (zB hyb hyk hye)
       exact ⟨⟨(j+1,ys),by show j+1≤16;omega,hg,hge2⟩,by simp only [AS.le,leT,leH,zf,AsgK,AV.le,AV.leL,AObj.le,inH,idsT,idsH,AV.ids,AV.idsL,AV.idsR,AObj.ids,lk,hget,go_sem,aeq,aeq.aeqF,simprocAttr,hwj,hRea],by simp;omega⟩
     ·have hyb:(Y.2 !=0)=true:=by simpa using hye
      rw [if_pos (by simpa using hye)] at hg hge2
      have hJne:J0.2≠0:=by rw [← hge2];exact hye
      refine' z7 hyb
      ·rintro zs rfl
       rw [← hg,(hf2 hJne).2]
       simp
      ·exact ⟨Y.2,rfl,by rw [← (hf2 hJne).1];exact hge2⟩
    ·have hcj:decide ((j:Int)<16)=false:=decide_eq_false (by omega)
     have hj16:j=16:=by omega
     subst hj16
     rw [show 16 - 16=0 from rfl,rlJ] at hg hge2
     have hJ3:=hf3 hge2.symm
     refine' z7 hcj
     exact ⟨⟨(i+1,ys),by show i+1≤4;omega,by rw [← hR,← hJ3.2,← hg];simp,by rw [← hR];exact hJ3.1⟩,by simp only [AS.le,leT,leH,zf,AsgK,AV.le,AV.leL,AObj.le,inH,idsT,idsH,AV.ids,AV.idsL,AV.idsR,AObj.ids,lk,hget,go_sem,aeq,aeq.aeqF,simprocAttr,hwi,hRea],by simp;omega⟩
   exact ⟨0,rfl⟩
  ·have hb:(X.2==0)=false:=by simpa using he
   have hb2:(X.2 !=0)=true:=by simpa using he
   rw [if_pos (by simpa using he)] at hf hfe
   refine' z7 (zn hb hb2)
   ·rintro zs rfl
    rw [← hf]
    simp
   ·exact ⟨X.2,rfl,hfe⟩
 ·have hcmp:decide ((i:Int)<4)=false:=decide_eq_false (by omega)
  have h4:i=4:=by omega
  subst h4
  rw [show 4 - 4=0 from rfl,rlI] at hf hfe
  refine' z7 hcmp
  ·rintro zs rfl
   rw [← hf]
   simp
  ·exact ⟨0,rfl,hfe⟩
open Go Go.Proofs
@[go_sem] abbrev hRe0 (d:Disk) (p:Plan):AHeap:= [(6,.var [.nils 1]),(5,.var (wkP p ⟨0,0⟩ d 0)),(4,(.var [.d (.sl 1 (p.targets.map intD)),.d (.sl 1 (p.texts.map strD))])),(3,(.var [.d (.str d.data),.d (.sl 2 (d.cache.map putD)),.d (.int .i64 d.fuse),.d (.bool d.off),.d (.sl 1 (d.bad.map intD))]))]
theorem zrl (d:Disk) (p:Plan) (l1:Int):ACall Tryz.prog 211 10 [.vp 5 0,.d (.int .i64 l1)] (hRe0 d p) (λr h'=>r= .fn (.func 254) [] [.vp 10 0,.vp 11 0]/\h'=(11,.var [.d (.int .i64 l1)])::(10,.var [.vp 5 0])::hRe0 d p):=by refine bod Tryz.func211 Tryz.ntmps211 (λbase=>?_);refine' zc fx
theorem zng {p:Nat->Bool} {h:AHeap} (hin:inH (hsel p h) (idsH (hsel p h))):zhI p h:=λi o ho hp j hj=>by
 have h1:hget (hsel p h) i=some o:=by rw [zx,if_pos hp];exact ho
 have:=zgZ hin j (zgu h1 j hj);rw [zx] at this;cases hb:p j with
 |true=>rfl
 |false=>rw [hb] at this;simp at this
theorem zjq (d:Disk) (p:Plan) (l1:Int) (h:DP d p):ACall Tryz.prog 155 3 [diskA d,planA p,.d (.int .i64 l1)] [] (λr h'=>((reach d p l1).2≠0/\r= .tup [.nils 1,.d (.int .i64 (reach d p l1).2)]/\∃a,h'= [(12,.arr 1 a)])\/((reach d p l1).2=0/\r= .tup [.osl 12 1 (reach d p l1).1.length 0 (reach d p l1).1.length,.d (.int .i64 0)]/\h'= [(12,.arr 1 ((reach d p l1).1.map intD))])):=by
 refine zC (λi=>decide (i=12)) ?_;refine bod Tryz.func155 Tryz.ntmps155 (λbase=>?_);have hr:=zpX (d:=d) (p:=p) (l1:=l1);have hll:=ztJ (d:=d) (p:=p) (l1:=l1) 4 0;have hit:=znf d p l1 h;obtain ⟨L,hL⟩:∃L,L=rlI d p l1 4 0:=⟨_,rfl⟩
 rw [<-hL] at hr hll hit;refine' zaO fx;refine ((zrl d p l1).whole (zJ rfl) (by omega) ?_).mono ?_
 ·rintro r h' ⟨rfl,rfl⟩ i hi;revert hi;simp only [hget];repeat' split
  all_goals simp
 rintro r h' ⟨rfl,rfl⟩;refine' zaO fx;refine zir 6 0 1 (cs:= [.nils 1]) rfl rfl ?_;obtain ⟨I,hI⟩:∃I:List (List AV)->AHeap×Option (List (List AV)),I=λxs=>([(12,.arr 1 ((L.1.take xs.length).map intD)),(6,.var [.osl 12 1 xs.length 0 xs.length]),(4,(.var [.d (.sl 1 (p.targets.map intD)),.d (.sl 1 (p.texts.map strD))])),(3,(.var [.d (.str d.data),.d (.sl 2 (d.cache.map putD)),.d (.int .i64 d.fuse),.d (.bool d.off),.d (.sl 1 (d.bad.map intD))]))],some []):=⟨_,rfl⟩
 refine aw_le ⟨[(8,true,.vp 5 0),(9,true,.vp 6 0),(17,true,.fn (.func 254) [] [.vp 10 0,.vp 11 0])],(12,.arr 1 [])::(6,.var [.osl 12 1 0 0 0])::(4,(.var [.d (.sl 1 (p.targets.map intD)),.d (.sl 1 (p.texts.map strD))]))::(3,(.var [.d (.str d.data),.d (.sl 2 (d.cache.map putD)),.d (.int .i64 d.fuse),.d (.bool d.off),.d (.sl 1 (d.bad.map intD))]))::hRea d p l1 0,some []⟩ (by simp only [AS.le,leT,leH,zf,AsgK,AV.le,AV.leL,AObj.le,inH,idsT,idsH,AV.ids,AV.idsL,AV.idsR,AObj.ids,lk,hget,go_sem,aeq,aeq.aeqF,simprocAttr,fresh,top,hset,hRea]) ?_;refine zfo (Kit:=λgg h'=>(∀xs,gg=some xs->xs=L.1.map intI)/\∃e,h'=hRea d p l1 e/\(gg≠none->e=L.2)) (items:=L.1.map intI) (fl:=20) (λi=>i==5||i==10||i==11) I (λ_ _ _=>False) rfl rfl hit (zJ rfl) (by simp [cxOf]) (zng ?_) (by simp [AV.idsL,AV.ids]) ?_ ?_ (by rw [hI]) ?_ (λ_ _ _ h=>h.elim) ?_ (by intro x hx;obtain ⟨q,_,rfl⟩:=List.mem_map.1 hx;rfl) (by simp [cxOf]) ?_ ?_ (λ_ _ _ _ _ h=>h.elim)
 ·simp [hsel,inH,idsH,AObj.ids,AV.idsL,AV.ids,hget,wkP]
 ·rw [hI];simp [hsel,leH,hget,AObj.le,AV.leL,AV.le]
 ·rw [hI];simp [inH,idsH,AObj.ids,AV.idsL,AV.ids,hget]
 ·intro xs _ i hi;rw [hI] at hi;simp only [hget] at hi;repeat' split at hi
  all_goals first|(simp;omega)|simp at hi
 ·rintro gg h' ⟨h1,e,rfl,h2⟩;refine ⟨λi hi=>?_,h1⟩;simp only [hget] at hi;repeat' split at hi
  all_goals first|(simp;omega)|simp at hi
 ·intro xs x hpre l2 r1;obtain ⟨ys,q,zs,hys,rfl,hzl⟩:=zcS hpre;have hln:xs.length=ys.length:=by rw [hys];simp
  have hqL:L.1[xs.length]?=some q:=by rw [hzl,hln];simp
  have htk:=zb7 hqL;have hxl:=(List.getElem?_eq_some_iff.1 hqL).1;obtain ⟨A,hA⟩:∃A:List (List D),A=(L.1.take xs.length).map intD:=⟨_,rfl⟩
  have hAl:A.length=xs.length:=by rw [hA,List.length_map,List.length_take];omega
  simp only [intI];refine aw_le ⟨[(18,true,.d (.int .i64 q)),(9,true,.vp 6 0)],[(12,.arr 1 A),(6,.var [.osl 12 1 xs.length 0 xs.length]),(4,(.var [.d (.sl 1 (p.targets.map intD)),.d (.sl 1 (p.texts.map strD))])),(3,(.var [.d (.str d.data),.d (.sl 2 (d.cache.map putD)),.d (.int .i64 d.fuse),.d (.bool d.off),.d (.sl 1 (d.bad.map intD))]))],some []⟩ (by rw [hI,hA];simp only [AS.le,leT,leH,zf,AsgK,AV.le,AV.leL,AObj.le,inH,idsT,idsH,AV.ids,AV.idsL,AV.idsR,AObj.ids,lk,hget,go_sem,aeq,aeq.aeqF,simprocAttr]) ?_;refine' zaO (zL hAl hI @List.length_append.{0} htk @List.map_append.{0,0} hA.symm);rfl
 ·rintro h1 ⟨_,e,rfl,he⟩;obtain rfl:=he (by simp);rw [hI];by_cases hz:L.2=0
  ·have hb:(L.2 !=0)=false:=by simpa using hz
   rw [if_neg (by simpa using hz)] at hr;refine' zaO (zB hb @List.length_map.{0,0} @List.take_length.{0});all_goals first|rfl|skip
   rw [hr];exact .inr ⟨rfl,rfl,rfl⟩
  ·have hb:(L.2 !=0)=true:=by simpa using hz
   rw [if_pos hz] at hr;refine' zaO hb;all_goals first|rfl|skip
   rw [hr];exact .inl ⟨hz,rfl,_,rfl⟩
theorem ztK (d:Disk) (p:Plan) (l1:Int) (h:DP d p):AC 155 [diskA d,planA p,.d (.int .i64 l1)] (.tup [.d (.sl 1 ((reach d p l1).1.map intD)),.d (.int .i64 (reach d p l1).2)]):=by
 refine ziu (((zjq d p l1 h).low (Nat.zero_le _)).mono ?_);have hr:=zpX (d:=d) (p:=p) (l1:=l1);rintro r h' (⟨hz,rfl,a,rfl⟩|⟨hz,rfl,rfl⟩)
 ·have he:(reach d p l1).1= []:=by
   rw [hr] at hz ⊢;split
   ·rfl
   ·rename_i h1;rw [if_neg h1] at hz;exact absurd rfl hz
  simp only [go_sem,aeq,aeq.aeqF,simprocAttr,he]
 ·simp only [go_sem,aeq,aeq.aeqF,simprocAttr,hz,List.length_map,List.take_length,List.take_of_length_le (Nat.le_refl _)]
@[go_sem] noncomputable def zoL:Ent Tryz.prog 155:= .m3 zu zw (intT .i64) ztK
theorem zoM {d:Disk} {by_:Int} :∀ (l:List Int) (s:Wk),s.e≠0->l.foldl (λs k=>wcount d s k by_) s=s
 | [],s,h=>rfl
 |k::l,s,h=>by
  have:wcount d s k by_=s:=by rw [wcount,if_pos h]
  rw [List.foldl_cons,this];exact zoM l s h
theorem ztL {d:Disk} {by_:Int} :∀ (l:List Int) (q:Plan),(l.foldl (λs k=>wcount d s k by_) (Wk.mk q 0)).e=(shareK d by_ l q).2/\((shareK d by_ l q).2=0->(l.foldl (λs k=>wcount d s k by_) (Wk.mk q 0)).q=(shareK d by_ l q).1)
 | [],q=>⟨rfl,λ_=>rfl⟩
 | k::l,q=>by
  have hw:wcount d ⟨q,0⟩ k by_=⟨(radd d q k by_).1,(radd d q k by_).2⟩:=by rw [wcount,if_neg (by simp)]
  rw [List.foldl_cons,hw,shareK];by_cases h:(radd d q k by_).2=0
  ·rw [if_neg (by simpa using h),h];exact ztL l _
  ·rw [if_pos h,zoM l _ h];exact ⟨rfl,λh2=>absurd h2 h⟩
theorem zkD {d:Disk} {by_:Int} :∀ (l:List Int) {s:Wk},DP d s.q->DP d (l.foldl (λs k=>wcount d s k by_) s).q
 | [],s,h=>h
 |k::l,s,h=>zkD l (h.wcount k by_)
theorem ztM (d:Disk) (p:Plan) (l1 by_:Int) (h:DP d p):AC 123 [diskA d,planA p,.d (.int .i64 l1),.d (.int .i64 by_)] (.tup [planA (share d p l1 by_).1,.d (.int .i64 (share d p l1 by_).2)]):=by
 refine ziu (ACall.low (fl:=2) ?_ (Nat.zero_le _));refine bod Tryz.func123 Tryz.ntmps123 (λbase=>?_);have hrl:=zfz (d:=d) (p:=p) (t:=l1);obtain ⟨W,hW⟩:∃W,W=reach d p l1:=⟨_,rfl⟩
 rw [<-hW] at hrl;have hsh:share d p l1 by_=if W.2≠0 then (p,W.2) else if (shareK d by_ W.1 p).2≠0 then (p,(shareK d by_ W.1 p).2) else shareK d by_ W.1 p:=by rw [share,hW]
 refine' walkW hW.symm (za zoL <| zb _);obtain ⟨F,hF⟩:∃F:Nat->Wk,F=λi=>(W.1.take i).foldl (λs k=>wcount d s k by_) ⟨p,W.2⟩:=⟨_,rfl⟩
 have hF0:F 0=⟨p,W.2⟩:=by rw [hF];rfl
 have hFd:∀i,DP d (F i).q:=λi=>by rw [hF];exact zkD _ h
 refine zq (λq: { i:Nat // i<=W.1.length } =>⟨[(3,true,.d (.int .i64 by_)),(4,true,.vp 2 0),(5,true,.vp 3 0),(8,true,.vp 4 0),(12,true,.vp 5 0),(27,true,.d (.sl 1 (W.1.map intD))),(28,true,.d (.int .i64 W.1.length)),(29,true,.d (.int .i64 q.1))],[(5,.var (wkP (F q.1).q ⟨0,0⟩ d (F q.1).e)),(4,.var [.nils 1,.nils 1]),(3,(.var [.d (.sl 1 (p.targets.map intD)),.d (.sl 1 (p.texts.map strD))])),(2,(.var [.d (.str d.data),.d (.sl 2 (d.cache.map putD)),.d (.int .i64 d.fuse),.d (.bool d.off),.d (.sl 1 (d.bad.map intD))]))],some []⟩) (λq=>W.1.length - q.1) ⟨0,Nat.zero_le _⟩ (by simp only [hF0];simp only [AS.le,leT,leH,zf,AsgK,AV.le,AV.leL,AObj.le,inH,idsT,idsH,AV.ids,AV.idsL,AV.idsR,AObj.ids,lk,hget,go_sem,aeq,aeq.aeqF,simprocAttr]<;>and_intros<;>rfl) (λq=>?_);obtain ⟨i,hi⟩:=q;simp only;rcases zP intD W.1 i hi with ⟨u,hq,hlt,hcmp,hrow,hdr,htk⟩|⟨hend,hcmp⟩
 ·simp only [intD] at hrow;have hwi:=zr (i:=i) (by omega);have hFs:F (i+1)=wcount d (F i) u by_:=by rw [hF];simp only [htk,List.foldl_append,List.foldl_cons,List.foldl_nil]
  refine' zc (zn hcmp hrow);refine ((zlu ⟨0,0⟩ d (F i) u by_ (hFd i)).one (fl':=2) rfl rfl (zJ rfl) rfl (by simp [AObj.ids,AV.idsL,AV.ids,wkP]) (by simp [AV.idsL,AV.ids]) (by omega)).mono ?_;rintro r h' ⟨ob',⟨rfl,rfl⟩,rfl⟩;rw [<-hFs];simp only [go_sem,aeq,aeq.aeqF,simprocAttr];refine hK _ ?_;clear hK K;refine' zc fx;exact ⟨⟨i+1,by omega⟩,lev,by simp;omega⟩
 ·have hFe:F i=W.1.foldl (λs k=>wcount d s k by_) ⟨p,W.2⟩:=by rw [hF,hend];simp only [List.take_length]
  obtain ⟨G,hG⟩:∃G,G=F i:=⟨_,rfl⟩
  rw [<-hG] at hFe ⊢
  have hfin:share d p l1 by_=if G.e≠0 then (p,G.e) else (G.q,0):=by
   rw [hsh];by_cases hz:W.2=0
   ·rw [hz] at hFe;obtain ⟨s1,s2⟩:=ztL (d:=d) (by_:=by_) W.1 p;rw [<-hFe] at s1 s2;rw [if_neg (by simpa using hz),<-s1];by_cases h5:G.e=0
    ·rw [if_neg (by simpa using h5),if_neg (by simpa using h5),s2 (by rw [<-s1];exact h5),<-h5,s1]
    ·rw [if_pos h5,if_pos h5]
   ·rw [zoM _ _ hz] at hFe;rw [if_pos hz,hFe,if_pos hz]
  by_cases h5:G.e=0
  ·have hb:(G.e !=0)=false:=by simpa using h5
   rw [if_neg (by simpa using h5)] at hfin;refine' zc (zn hcmp hb);rw [hfin]
  ·have hb:(G.e !=0)=true:=by simpa using h5
   rw [if_pos h5] at hfin;refine' zc (zn hcmp hb);rw [hfin]
@[go_sem] noncomputable def zd7:Ent Tryz.prog 123:= .m4 zu zw (intT .i64) (intT .i64) ztM
open Go Go.Proofs
def cutN:Nat->Nat->Nat->List (Nat×Nat×Nat)
 |0,_,_=> []
 |k+1,a,n=>if n=0 then [] else (a / 128,a % 128,min n (128 - a % 128))::cutN k (a+min n (128 - a % 128)) (n - min n (128 - a % 128))
def cuts (a n:Nat):List (Nat×Nat×Nat):=cutN n a n
theorem ztN (k:Nat):∀ (j a n:Nat),n<=k->k<=j->cutN j a n=cutN k a n:=by
 induction k with
 |zero=>
  intro j a n h1 h2;have:n=0:=by omega
  subst this;cases j<;>simp [cutN]
 | succ k ih=>
  intro j a n h1 h2;obtain ⟨j,rfl⟩:∃i,j=i+1:=⟨j - 1,by omega⟩
  simp only [cutN];split
  ·rfl
  ·rename_i h0;rw [ih j _ _ (by omega) (by omega)]
theorem zjr (a:Nat):cuts a 0= []:=rfl
theorem zlD (a n:Nat) (h:0<n):cuts a n=(a / 128,a % 128,min n (128 - a % 128))::cuts (a+min n (128 - a % 128)) (n - min n (128 - a % 128)):=by
 unfold cuts;obtain ⟨k,rfl⟩:∃k,n=k+1:=⟨n - 1,by omega⟩
 rw [cutN,if_neg (by omega)];congr 1;exact ztN _ _ _ _ (Nat.le_refl _) (by omega)
theorem zlE (n:Nat):∀a,(cuts a n).length<=n:=by
 induction n using Nat.strongRecOn with
 | _ n ih=>
  intro a;rcases Nat.eq_zero_or_pos n with rfl|h
  ·simp [zjr]
  ·rw [zlD a n h];simp only [List.length_cons];have:=ih (n - min n (128 - a % 128)) (by omega) (a+min n (128 - a % 128));omega
def cutD (q:Nat×Nat×Nat):List D:= [.int .i64 q.1,.int .i64 q.2.1,.int .i64 q.2.2]
def zb8 (q:Nat×Nat×Nat):List AV:= [.agg [.d (.int .i64 q.1),.d (.int .i64 q.2.1),.d (.int .i64 q.2.2)]]
theorem zoN (a n:Nat) (h:0<n) (xs:List (List AV)) {items:List (List AV)} (e:xs++(cuts a n).map zb8=items):(xs++ [zb8 (a / 128,a % 128,min n (128 - a % 128))])<+:items/\
  (xs++ [zb8 (a / 128,a % 128,min n (128 - a % 128))])++(cuts (a+min n (128 - a % 128)) (n - min n (128 - a % 128))).map zb8=items:=by
 rw [zlD a n h] at e
 have e2:(xs++ [zb8 (a / 128,a % 128,min n (128 - a % 128))])++(cuts (a+min n (128 - a % 128)) (n - min n (128 - a % 128))).map zb8=items:=by rw [<-e];simp
 exact ⟨⟨_,e2⟩,e2⟩
abbrev Pst (items:List (List AV)) (b:Nat):= { q:List (List AV)×Nat×Nat // q.1++(cuts q.2.1 q.2.2).map zb8=items/\q.2.1+q.2.2<=b }
@[go_sem] abbrev hPc (a n:Nat):AHeap:= [(1,.var [.d (.int .i64 n)]),(0,.var [.d (.int .i64 a)])]
theorem zlF (a n:Nat) (hb:a+n<=1100000000):AIter Tryz.prog 218 4 [] [.vp 1 0,.vp 0 0] (hPc a n) ((cuts a n).map zb8) (λg h'=>(∀xs,g=some xs->xs=(cuts a n).map zb8)/\∃u v:Nat,h'=hPc u v):=by
 refine itr Tryz.func218 Tryz.ntmps218 (λbase y=>?_);refine' z7 fx;refine zq (λq:Pst ((cuts a n).map zb8) (a+n)=>⟨[(0,true,.fn (.yield y.yl) [] []),(1,true,.vp 1 0),(2,true,.vp 0 0)],hPc q.1.2.1 q.1.2.2,some q.1.1⟩) (λq=>q.1.2.2) ⟨([],a,n),rfl,Nat.le_refl _⟩ (by simp only [AS.le,leT,leH,zf,AsgK,AV.le,AV.leL,AObj.le,inH,idsT,idsH,AV.ids,AV.idsL,AV.idsR,AObj.ids,lk,hget,go_sem,aeq,aeq.aeqF,simprocAttr,hPc]<;>and_intros<;>rfl) (λq=>?_);obtain ⟨⟨xs,a',n'⟩,he,hbq⟩:=q;simp only at he hbq ⊢;rcases Nat.eq_zero_or_pos n' with hn0|hn0
 ·have hg:decide ((0:Int)<(n':Int))=false:=decide_eq_false (by omega);refine' z7 hg;all_goals first|exact ⟨_,_,rfl⟩|skip
  subst hn0;rw [zjr] at he
  ·rintro zs rfl;rw [<-he];simp
 ·have hg:decide ((0:Int)<(n':Int))=true:=decide_eq_true (by omega);obtain ⟨m,hm⟩:∃m,m=min n' (128 - a' % 128):=⟨_,rfl⟩
  have hq:IntKind.i64.wrap ((a':Int).tdiv 128)=((a' / 128:Nat):Int):=by rw [Int.tdiv_eq_ediv_of_nonneg (by omega),IntKind.wrap_i64];omega
  have hr:(a':Int).tmod 128=((a' % 128:Nat):Int):=by rw [Int.tmod_eq_emod_of_nonneg (by omega)];omega
  have hs:IntKind.i64.wrap (128 - ((a' % 128:Nat):Int))=((128 - a' % 128:Nat):Int):=by rw [IntKind.wrap_i64];omega
  have hmin:imin (n':Int) ((128 - a' % 128:Nat):Int)=(m:Int):=by unfold imin;split<;>omega
  have hadd:IntKind.i64.wrap ((a':Int)+(m:Int))=((a'+m:Nat):Int):=by rw [IntKind.wrap_i64];omega
  have hsub:IntKind.i64.wrap ((n':Int) - (m:Int))=((n' - m:Nat):Int):=by rw [IntKind.wrap_i64];omega
  obtain ⟨hp1,hp2⟩:=zoN a' n' hn0 xs he;rw [<-hm] at hp1 hp2;simp only [zb8] at hp1;refine' z7 (zL hg hq hr hs hmin (zn hadd hsub))
  ·exact ⟨⟨⟨_,a'+m,n' - m⟩,hp2,by simp only;omega⟩,by simp only [AS.le,leT,leH,zf,AsgK,AV.le,AV.leL,AObj.le,inH,idsT,idsH,AV.ids,AV.idsL,AV.idsR,AObj.ids,lk,hget,go_sem,aeq,aeq.aeqF,simprocAttr,hPc,zb8]<;>and_intros<;>rfl,by simp only;omega⟩
  ·exact ⟨_,_,rfl⟩
def cutR (x:List AV):List D:=match x with
 | [.agg [.d a,.d b,.d c]]=> [a,b,c]
 |_=> []
theorem zvP (l:List (Nat×Nat×Nat)):(l.map zb8).map cutR=l.map cutD:=by rw [List.map_map];rfl
@[go_sem] abbrev hC3 (u v:Nat) (l:List (List D)):AHeap:= [(1,.var [.d (.int .i64 v)]),(0,.var [.d (.int .i64 u)]),(3,.arr 3 l),(2,.var [.osl 3 3 l.length 0 l.length])]
theorem zlG (a n:Nat) (hb:a+n<=1100000000) (hn:n<=100000):ACall Tryz.prog 217 2 [.nils 3,.fn (.func 218) [] [.vp 1 0,.vp 0 0]] (hPc a n) (λr h'=>r= .osl 3 3 (cuts a n).length 0 (cuts a n).length/\∃u v:Nat,h'=hC3 u v ((cuts a n).map cutD)):=by
 refine bod Tryz.func217 Tryz.ntmps217 (λbase=>?_);have hcl:=zlE n a;refine' zaO fx;refine zir 2 0 3 (cs:= [.nils 3]) rfl rfl ?_;simp only [go_sem,aeq,aeq.aeqF,simprocAttr];obtain ⟨I,hI⟩:∃I:List (List AV)->AHeap×Option (List (List AV)),I=λxs=>([(3,.arr 3 (xs.map cutR)),(2,.var [.osl 3 3 xs.length 0 xs.length])],some []):=⟨_,rfl⟩
 refine zfo (Kit:=λg h'=>(∀xs,g=some xs->xs=(cuts a n).map zb8)/\∃u v:Nat,h'=hPc u v) (items:=(cuts a n).map zb8) (fl:=4) (λi=>decide (i<2)) I (λ_ _ _=>False) rfl rfl (zlF a n hb) (zJ rfl) (by simp [cxOf]) (zng ?_) (by simp [AV.idsL,AV.ids]) ?_ ?_ (by rw [hI]) ?_ (λ_ _ _ h=>h.elim) ?_ (by intro x hx;obtain ⟨q,_,rfl⟩:=List.mem_map.1 hx;rfl) (by simp [cxOf]) ?_ ?_ (λ_ _ _ _ _ h=>h.elim)
 ·simp [hsel,inH,idsH,AObj.ids,AV.idsL,AV.ids,hget]
 ·rw [hI];simp [hsel,leH,hget,AObj.le,AV.leL,AV.le]
 ·rw [hI];simp [inH,idsH,AObj.ids,AV.idsL,AV.ids,hget]
 ·intro xs _ i hi;rw [hI] at hi;simp only [hget] at hi;repeat' split at hi
  all_goals first|(simp;omega)|simp at hi
 ·rintro gg h' ⟨h1,u,v,rfl⟩;refine ⟨λi hi=>?_,h1⟩;simp only [hget] at hi;repeat' split at hi
  all_goals first|(simp;omega)|simp at hi
 ·intro xs x hpre l1 r1;obtain ⟨q,hq,rfl⟩:=List.mem_map.1 (hpre.subset (List.mem_append_right _ (List.mem_singleton.2 rfl)));have hxl:=hpre.length_le;simp only [List.length_append,List.length_map,List.length_cons,List.length_nil] at hxl;obtain ⟨m,d',b'⟩:=q;simp only [zb8];refine aw_le ⟨[(7,true,.agg [.d (.int .i64 m),.d (.int .i64 d'),.d (.int .i64 b')]),(2,true,.vp 2 0)],[(3,.arr 3 (xs.map cutR)),(2,.var [.osl 3 3 xs.length 0 xs.length])],some []⟩ (by rw [hI];simp only [AS.le,leT,leH,zf,AsgK,AV.le,AV.leL,AObj.le,inH,idsT,idsH,AV.ids,AV.idsL,AV.idsR,AObj.ids,lk,hget,go_sem,aeq,aeq.aeqF,simprocAttr]) ?_;refine' zaO hI;all_goals first|omega|(simp;done)|skip
  all_goals (rw [List.map_append];rfl)
 ·rintro h1 ⟨_,u,v,rfl⟩;rw [hI];simp only [zvP,List.length_map];refine' zaO fx;exact ⟨u,v,by simp⟩
theorem zoO (a n:Nat) (hb:a+n<=1100000000) (hn:n<=100000):ACall Tryz.prog 161 2 [.fn (.func 218) [] [.vp 1 0,.vp 0 0]] (hPc a n) (λr h'=>r= .osl 3 3 (cuts a n).length 0 (cuts a n).length/\∃u v:Nat,h'=hC3 u v ((cuts a n).map cutD)):=by
 refine bod Tryz.func161 Tryz.ntmps161 (λbase=>?_);refine' zc fx;refine ((zlG a n hb hn).whole (zJ rfl) (Nat.le_refl _) ?_).mono ?_
 ·rintro r h' ⟨_,u,v,rfl⟩ i hi;simp only [hget] at hi ⊢;repeat' split at hi
  all_goals first|(simp_all;done)|skip
 rintro r h' ⟨rfl,u,v,rfl⟩;refine' zc fx;exact ⟨u,v,rfl⟩
theorem zrm (a n:Nat):ACall Tryz.prog 162 0 [.d (.int .i64 a),.d (.int .i64 n)] [] (λr h'=>r= .fn (.func 218) [] [.vp 1 0,.vp 0 0]/\h'=hPc a n):=by refine bod Tryz.func162 Tryz.ntmps162 (λbase=>?_);refine' zc fx
def cutsL (a n:Int):List (Nat×Nat×Nat):=if a<0\/n<0\/1073741824<a\/65536<n then [] else cuts a.toNat n.toNat
theorem zxA (a n:Int) (_:True):AC 89 [.d (.int .i64 a),.d (.int .i64 n)] (.d (.sl 3 ((cutsL a n).map cutD))):=by
 refine fbod Tryz.func89 Tryz.ntmps89 (λbase=>?_);cases hb:(decide (a<0)||decide (n<0)||decide (1073741824<a)||decide (65536<n)) with
 |true=>
  refine' zc hb;rw [cutsL,if_pos (by simpa [or_assoc] using hb)];rfl
 | false=>
  have hb':¬(a<0\/n<0\/1073741824<a\/65536<n):=by simp at hb;omega
  obtain ⟨x,rfl⟩:∃x:Nat,a=x:=⟨a.toNat,by omega⟩
  obtain ⟨y,rfl⟩:∃y:Nat,n=y:=⟨n.toNat,by omega⟩
  have hcl:=zlE y x;refine' zc hb;refine ((zrm x y).whole (zJ rfl) (Nat.le_refl _) (by rintro r h' _ i hi;simp [hget] at hi)).mono ?_;rintro r h' ⟨rfl,rfl⟩;simp only [go_sem,aeq,aeq.aeqF,simprocAttr,hPc];refine ((zoO x y (by omega) (by omega)).whole (zJ rfl) (Nat.zero_le _) ?_).mono ?_
  ·rintro r h' ⟨_,u,v,rfl⟩ i hi;simp only [hget] at hi ⊢;repeat' split at hi
   all_goals first|(simp_all;done)|skip
  rintro r h' ⟨rfl,u,v,rfl⟩;simp only [go_sem,aeq,aeq.aeqF,simprocAttr,hC3];refine' zc fx;rw [cutsL,if_neg hb'];rfl
@[go_sem] noncomputable def zfC:Ent Tryz.prog 89:= .m2 (intT .i64) (intT .i64) zxA
open Go Go.Proofs
structure DF (d d':Disk):Prop where
 data:d'.data.length=d.data.length
 bad:d'.bad=d.bad
 cache:d.cache.length<=4096->d'.cache.length<=4096
theorem DF.refl (d:Disk):DF d d:=⟨rfl,rfl,id⟩
theorem DF.trans {a b c:Disk} (h:DF a b) (g:DF b c):DF a c:=⟨g.data.trans h.data,g.bad.trans h.bad,λk=>g.cache (h.cache k)⟩
theorem znh {d d':Disk} (h:d'.data.length=d.data.length):∀ (l:List Int) (p:Option Int),zc8 d' l p=zc8 d l p
 | [],p=>rfl
 |a::l,p=>by simp only [zc8];rw [zhr h,znh h l]
theorem DF.fit {d d':Disk} (h:DF d d') (hF:DiskF d') (hf:dfit d=true):dfit d'=true:=by
 unfold dfit at hf ⊢;simp only [Bool.and_eq_true,decide_eq_true_eq,beq_iff_eq] at hf ⊢;obtain ⟨⟨⟨⟨⟨h1,h2⟩,h3⟩,h4⟩,h5⟩,h6⟩:=hf;have hd:dsize d'=dsize d:=by unfold dsize;rw [h.data]
 exact ⟨⟨⟨⟨⟨by rw [hd];exact h1,by rw [hd];exact h2⟩,by rw [h.data];exact h3⟩,h.cache h4⟩,hF.puts⟩,by rw [h.bad,znh h.data];exact h6⟩
theorem DF.write (d:Disk) (a:Int) (s:Txt):DF d (zM d a s).1:=by
 refine ⟨by rw [ziR],?_,?_⟩
 ·unfold zM;repeat' split
  all_goals first|rfl|(rw [zgS])
 ·intro h;unfold zM;split
  ·exact h
  split
  ·exact h
  split
  ·exact h
  split
  ·exact h
  split
  ·exact h
  split
  ·exact h
  ·rename_i h1 h2 h3 h4 h5 h6;rw [zdV];simp only [List.length_append,List.length_cons,List.length_nil];omega
theorem DF.flush {d:Disk} (h:DiskF d):DF d (dflush d).1:=by
 refine ⟨zkl h.puts,?_,?_⟩
 ·unfold dflush;repeat' split
  all_goals first|rfl|(rw [zgS])
 ·intro hc;unfold dflush;split
  ·exact hc
  split
  ·exact hc
  ·rw [zdV];exact Nat.zero_le _
theorem DF.layL:∀ (l:List (Int×Txt)) (d:Disk),DF d (layL d l).1
 | [],d=>DF.refl d
 |q::l,d=>by
  rw [Aw.layL];split
  ·exact DF.write d q.1 q.2
  ·exact (DF.write d q.1 q.2).trans (DF.layL l _)
theorem DF.commit {d:Disk} (h:DiskF d) (j:Jour) (p:Plan):DF d (jcommit d j p).1:=by
 have h1:=DF.flush h;have h2:∀l,DF d (Aw.layL (dflush d).1 l).1:=λl=>h1.trans (DF.layL l _);have h3:∀l,DF d (dflush (Aw.layL (dflush d).1 l).1).1:=λl=>(h2 l).trans (DF.flush (DiskF.layL l h.flush));have h4:∀l,DF d (play (dflush (Aw.layL (dflush d).1 l).1).1 p).1:=λl=>(h3 l).trans (DF.layL _ _);unfold jcommit jtail;repeat' split
 all_goals first|exact DF.refl d|exact h1|exact h2 _|exact h3 _|exact h4 _
theorem DF.place (d:Disk) (k off:Int) (s:Txt):DF d (zgQ d k off s).1:=by
 have h1:∀i d,DF d (cput1 d k off s i).1:=by
  intro i d;unfold cput1;split
  ·exact DF.refl d
  split
  ·exact DF.refl d
  ·exact DF.write _ _ _
 have:∀m i d,DF d (zcV k off s m i d).1:=by
  intro m;induction m with
  |zero=>intro i d;exact DF.refl d
  |succ m ih=>
   intro i d;rw [zcV];split
   ·exact h1 i d
   ·exact (h1 i d).trans (ih _ _)
 exact this _ _ _
theorem zoP {d:Disk} {j:Jour} {p:Plan} (hp:pfit p=true) (h:jfit j=true):jfit (jcommit d j p).2.1=true:=by
 have hl:=(zfP j.seq hp).1;have hA:=zfO j.pos (zb4 j.seq p).length
 have hAL:0<=zcE j.pos (zb4 j.seq p).length/\zcE j.pos (zb4 j.seq p).length+(zb4 j.seq p).length<=81:=by refine ⟨by omega,?_⟩;unfold zcE;split<;>omega
 unfold jcommit;split
 ·exact h
 split
 ·exact h
 rename_i h2;split
 ·exact h
 unfold jtail;split
 ·exact h
 split
 ·exact h
 split
 ·exact h
 ·unfold jfit at h ⊢;simp only [Bool.and_eq_true,decide_eq_true_eq] at h ⊢;omega
structure IF (x y:Img):Prop where
 geom:y.geom=x.geom
 disk:DF x.disk y.disk
 jour:jfit x.jour=true->jfit y.jour=true
 len:y.maps.length=x.maps.length
 maps:∀n k,mfit n k y.maps=mfit n k x.maps
 head:y.maps.head?.map (·.name)=x.maps.head?.map (·.name)
theorem IF.refl (x:Img):IF x x:=⟨rfl,DF.refl _,id,rfl,λ_ _=>rfl,rfl⟩
theorem IF.trans {x y z:Img} (h:IF x y) (g:IF y z):IF x z:=⟨g.geom.trans h.geom,h.disk.trans g.disk,λk=>g.jour (h.jour k),g.len.trans h.len,λn k=>(g.maps n k).trans (h.maps n k),g.head.trans h.head⟩
theorem IF.fit {x y:Img} (h:IF x y) (hy:ImgF y) (hf:ifit x=true):ifit y=true:=by
 unfold ifit at hf ⊢;simp only [Bool.and_eq_true,decide_eq_true_eq,beq_iff_eq] at hf ⊢;obtain ⟨⟨⟨⟨⟨h1,h2⟩,h3⟩,h4⟩,h5⟩,h6⟩:=hf;have hd:dsize y.disk=dsize x.disk:=by unfold dsize;rw [h.disk.data]
 exact ⟨⟨⟨⟨⟨by rw [h.geom];exact h1,h.disk.fit hy.disk h2⟩,by rw [hd,h.geom];exact h3⟩,h.jour h4⟩,by rw [h.len];exact h5⟩,by rw [h.head,h.maps];exact h6⟩
theorem IF.mark (x:Img) (g:Int):IF x (cmark x g):=by
 unfold cmark;split
 ·exact IF.refl x
 ·refine ⟨rfl,DF.refl _,id,by simp,?_,?_⟩
  ·simp only;intro n k
   have hg:∀ (l:List Dmap) k,mfit n k (l.map (mset g.toNat))=mfit n k l:=by
    intro l;induction l with
    |nil=>intro k;rfl
    |cons m l ih=>intro k;rw [List.map_cons,mfit,mfit,ih];rfl
   exact hg _ k
  ·cases hm:x.maps with
   |nil=>simp [hm]
   |cons m l=>simp [hm,mset]
theorem IF.wd (x:Img) {d:Disk} (h:DF x.disk d):IF x (wdisk x d):=⟨rfl,h,id,rfl,λ_ _=>rfl,rfl⟩
theorem IF.done {x:Img} {p:Plan} (hx:DiskF x.disk) (hp:pfit p=true):IF x (cdone x p).1:=by
 have h1:=DF.commit hx x.jour p;have h2:=zoP (d:=x.disk) (j:=x.jour) hp;unfold cdone;split
 ·exact ⟨rfl,h1,id,rfl,λ_ _=>rfl,rfl⟩
 ·exact ⟨rfl,h1,h2,rfl,λ_ _=>rfl,rfl⟩
theorem IF.write4 {x:Img} (hx:ImgF x) (l1 g off:Int) (s:Txt):IF x (zdZ x l1 g off s).1:=by
 have hd0:DP x.disk p0:=⟨hx.disk,zaw⟩
 unfold zdZ;split
 ·exact IF.refl x
 split
 ·exact IF.refl x
 split
 ·exact IF.wd x (DF.layL _ _)
 split
 ·exact IF.wd x (DF.layL _ _)
 ·refine (IF.wd x (DF.layL _ _)).trans (IF.done (DiskF.layL _ hx.disk) ?_);have hq:DP (layL x.disk (zbO (rtake x.disk p0 x.geom).2.1 (overS (cread x.disk l1 g).1 off s).1)).1 (rtake x.disk p0 x.geom).1:=⟨DiskF.layL _ hx.disk,(hd0.rtake _).p⟩
  exact (hq.ppoint _ _ _).p
theorem IF.write {x:Img} (hx:ImgF x) (g off:Int) (s:Txt):IF x (zdo x g off s).1:=by
 have hm:=hx.mark g;unfold zdo;split
 ·exact IF.refl x
 split
 ·exact IF.refl x
 split
 ·exact IF.refl x
 refine (IF.mark x g).trans ?_;unfold zho;split
 ·exact IF.refl _
 split
 ·exact IF.refl _
 unfold zhn;split
 ·split
  ·exact IF.refl _
  split
  ·exact IF.wd _ (DF.place _ _ _ _)
  ·exact IF.write4 hm _ _ _ _
 ·exact IF.write4 hm _ _ _ _
theorem IF.wipe {x:Img} (hx:ImgF x) (g:Int) (hole:Bool):IF x (wipe x g hole).1:=by
 have hm:=hx.mark g;have hd0:DP (cmark x g).disk p0:=⟨hm.disk,zaw⟩
 unfold Aw.wipe;split
 ·exact IF.refl x
 split
 ·exact IF.refl x
 refine (IF.mark x g).trans ?_;obtain ⟨kd,hkd⟩:∃kd:Int,kd=if hole then 0 else 2:=⟨_,rfl⟩
 rw [<-hkd];unfold wipe2;split
 ·exact IF.refl _
 split
 ·exact IF.refl _
 split
 ·exact IF.refl _
 split
 ·exact IF.refl _
 ·exact IF.done hm.disk (hd0.ppoint _ _ _).p
theorem IF.create {x:Img} (hx:ImgF x) (n:Txt):IF x (zag x n).1:=by
 have hd0:DP x.disk p0:=⟨hx.disk,zaw⟩
 have hE:∀id q,pfit q.1=true->IF x (zdw x id q).1:=by intro id q hq;unfold zdw;split;exact IF.refl x;split<;>exact IF.done hx.disk hq
 have hD:∀r q,pfit q.1=true->IF x (zdx x r q).1:=by intro r q hq;unfold zdx;split;exact IF.refl x;exact hE _ _ (zd2 hq)
 have hC:∀n r a k q,DP x.disk q.1->IF x (zdy x n r a k q).1:=by intro n r a k q hq;unfold zdy;split;exact IF.refl x;exact hD _ _ (hq.setsnap _ _).p
 have hB:∀n r a k q,DP x.disk q.1->IF x (zdz x n r a k q).1:=by intro n r a k q hq;unfold zdz;split;exact IF.refl x;exact hC _ _ _ _ _ (hq.share _ _)
 have hA:∀n r a q,DP x.disk q.1->IF x (zcI x n r a q).1:=by intro n r a q hq;unfold zcI;split;exact IF.refl x;exact hB _ _ _ _ _ (hq.ecopy _ _)
 unfold zag;repeat (split;exact IF.refl x)
 exact hA _ _ _ _ (hd0.rtake _)
theorem IF.delete {x:Img} (hx:ImgF x) (id:Int):IF x (zbB x id).1:=by
 have hd0:DP x.disk p0:=⟨hx.disk,zaw⟩
 have hC:∀q,pfit q.1=true->IF x (sdelC x q).1:=by intro q hq;unfold sdelC;split;exact IF.refl x;exact IF.done hx.disk hq
 have hB:∀i q,DP x.disk q.1->IF x (sdelB x i q).1:=by intro i q hq;unfold sdelB;split;exact IF.refl x;exact hC _ (hq.setsnap _ _).p
 have hA:∀i k q,DP x.disk q.1->IF x (sdelA x i k q).1:=by intro i k q hq;unfold sdelA;split;exact IF.refl x;exact hB _ _ (hq.radd _ _)
 unfold zbB;repeat (split;exact IF.refl x)
 exact hA _ _ _ (hd0.share _ _)
theorem IF.marks (x:Img):∀n,IF x (zcf x n)
 |0=>IF.refl x
 |n+1=>(IF.marks x n).trans (IF.mark _ _)
theorem IF.revert {x:Img} (hx:ImgF x) (id:Int):IF x (zbC x id).1:=by
 have hd0:DP x.disk p0:=⟨hx.disk,zaw⟩
 have hC:∀q:Plan,pfit q=true->IF x (srevC x (cdone x q)).1:=by intro q hq;unfold srevC;split;exact IF.done hx.disk hq;exact (IF.done hx.disk hq).trans (IF.marks _ _)
 have hB:∀q,pfit q.1=true->IF x (srevB x q).1:=by intro q hq;unfold srevB;split;exact IF.refl x;exact hC _ hq
 have hA:∀k r q,DP x.disk q.1->IF x (srevA x k r q).1:=by intro k r q hq;unfold srevA;split;exact IF.refl x;exact hB _ (hq.ecopy _ _).p
 have h0:∀k r q,DP x.disk q.1->IF x (srev0 x k r q).1:=by intro k r q hq;unfold srev0;split;exact IF.refl x;exact hA _ _ _ (hq.share _ _)
 unfold zbC;repeat (split;exact IF.refl x)
 exact h0 _ _ _ (hd0.share _ _)
end Go.Aw
