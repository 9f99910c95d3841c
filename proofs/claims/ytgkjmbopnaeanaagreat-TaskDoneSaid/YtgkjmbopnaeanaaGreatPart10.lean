/-
 A range, cluster by cluster (program).
-/
import Derived.Test.YtgkjmbopnaeanaaGreatPart8
set_option maxRecDepth 100000
set_option maxHeartbeats 2000000
set_option linter.unusedSimpArgs false
set_option linter.unusedVariables false
namespace Go.Aw
open Go Go.Proofs
def cutN:Nat→Nat→Nat→List (Nat×Nat×Nat)
 |0,_,_=> []
 |k+1,a,n=>if n=0 then [] else (a / 128,a % 128,min n (128 - a % 128))::cutN k (a+min n (128 - a % 128)) (n - min n (128 - a % 128))
def cuts (a n:Nat):List (Nat×Nat×Nat):=cutN n a n
theorem zsS (k:Nat):∀ (j a n:Nat),n≤k→k≤j→cutN j a n=cutN k a n:=by
 induction k with
 |zero=>
  intro j a n h1 h2
  have:n=0:=by omega
  subst this
  cases j<;>simp [cutN]
 | succ k ih=>
  intro j a n h1 h2
  obtain ⟨j,rfl⟩:∃i,j=i+1:=⟨j - 1,by omega⟩
  simp only [cutN]
  split
  ·rfl
  ·rename_i h0
   rw [ih j _ _ (by omega) (by omega)]
theorem zfm (a:Nat):cuts a 0= []:=rfl
theorem zeL (a n:Nat) (h:0<n):cuts a n=(a / 128,a % 128,min n (128 - a % 128))::cuts (a+min n (128 - a % 128)) (n - min n (128 - a % 128)):=by
 unfold cuts
 obtain ⟨k,rfl⟩:∃k,n=k+1:=⟨n - 1,by omega⟩
 rw [cutN,if_neg (by omega)]
 congr 1
 exact zsS _ _ _ _ (Nat.le_refl _) (by omega)
theorem zkE (n:Nat):∀a,(cuts a n).length≤n:=by
 induction n using Nat.strongRecOn with
 | _ n ih=>
  intro a
  rcases Nat.eq_zero_or_pos n with rfl|h
  ·simp [zfm]
  ·rw [zeL a n h]
   simp only [List.length_cons]
   have:=ih (n - min n (128 - a % 128)) (by omega) (a+min n (128 - a % 128))
   omega
def cutD (q:Nat×Nat×Nat):List D:= [.int .i64 q.1,.int .i64 q.2.1,.int .i64 q.2.2]
def zb6 (q:Nat×Nat×Nat):List AV:= [.agg [.d (.int .i64 q.1),.d (.int .i64 q.2.1),.d (.int .i64 q.2.2)]]
theorem znW (a n:Nat) (h:0<n) (xs:List (List AV)) {items:List (List AV)} (e:xs++(cuts a n).map zb6=items):(xs++ [zb6 (a / 128,a % 128,min n (128 - a % 128))])<+:items∧
  (xs++ [zb6 (a / 128,a % 128,min n (128 - a % 128))])++(cuts (a+min n (128 - a % 128)) (n - min n (128 - a % 128))).map zb6=items:=by
 rw [zeL a n h] at e
 have e2:(xs++ [zb6 (a / 128,a % 128,min n (128 - a % 128))])++(cuts (a+min n (128 - a % 128)) (n - min n (128 - a % 128))).map zb6=items:=by
  rw [← e];simp
 exact ⟨⟨_,e2⟩,e2⟩
abbrev Pst (items:List (List AV)) (b:Nat):= { q:List (List AV)×Nat×Nat // q.1++(cuts q.2.1 q.2.2).map zb6=items∧q.2.1+q.2.2≤b }
@[go_sem] abbrev hPc (a n:Nat):AHeap:= [(1,.var [.d (.int .i64 n)]),(0,.var [.d (.int .i64 a)])]
theorem zkF (a n:Nat) (hb:a+n≤1100000000):AIter Tryz.prog 115 4 [] [.vp 1 0,.vp 0 0] (hPc a n) ((cuts a n).map zb6) (fun g h'=>(∀xs,g=some xs→xs=(cuts a n).map zb6)∧∃u v:Nat,h'=hPc u v):=by
 refine itr Tryz.func115 Tryz.ntmps115 (fun base y=>?_)
 refine' zaz fx
 refine zo (fun q:Pst ((cuts a n).map zb6) (a+n)=>⟨[(0,true,.fn (.yield y.yl) [] []),(1,true,.vp 1 0),(2,true,.vp 0 0)],hPc q.1.2.1 q.1.2.2,some q.1.1⟩) (fun q=>q.1.2.2) ⟨([],a,n),rfl,Nat.le_refl _⟩ (by simp only [AS.le,leT,leH,zf,AsgK,AV.le,AV.leL,AObj.le,inH,idsT,idsH,AV.ids,AV.idsL,AV.idsR,AObj.ids,lk,hget,go_sem,aeq,aeq.aeqF,simprocAttr,hPc]<;>and_intros<;>rfl) (fun q=>?_)
 obtain ⟨⟨xs,a',n'⟩,he,hbq⟩:=q
 simp only at he hbq ⊢
 rcases Nat.eq_zero_or_pos n' with hn0|hn0
 ·have hg:decide ((0:Int)<(n':Int))=false:=decide_eq_false (by omega)
  refine' zaz hg
  all_goals first|exact ⟨_,_,rfl⟩|skip
  subst hn0
  rw [zfm] at he
  ·rintro zs rfl
   rw [← he];simp
 ·have hg:decide ((0:Int)<(n':Int))=true:=decide_eq_true (by omega)
  obtain ⟨m,hm⟩:∃m,m=min n' (128 - a' % 128):=⟨_,rfl⟩
  have hq:IntKind.i64.wrap ((a':Int).tdiv 128)=((a' / 128:Nat):Int):=by
   rw [Int.tdiv_eq_ediv_of_nonneg (by omega),IntKind.wrap_i64];omega
  have hr:(a':Int).tmod 128=((a' % 128:Nat):Int):=by
   rw [Int.tmod_eq_emod_of_nonneg (by omega)];omega
  have hs:IntKind.i64.wrap (128 - ((a' % 128:Nat):Int))=((128 - a' % 128:Nat):Int):=by rw [IntKind.wrap_i64];omega
  have hmin:imin (n':Int) ((128 - a' % 128:Nat):Int)=(m:Int):=by
   unfold imin
   split<;>omega
  have hadd:IntKind.i64.wrap ((a':Int)+(m:Int))=((a'+m:Nat):Int):=by rw [IntKind.wrap_i64];omega
  have hsub:IntKind.i64.wrap ((n':Int) - (m:Int))=((n' - m:Nat):Int):=by rw [IntKind.wrap_i64];omega
  obtain ⟨hp1,hp2⟩:=znW a' n' hn0 xs he
  rw [← hm] at hp1 hp2
  simp only [zb6] at hp1
  refine' zaz (zq hg hq hr hs hmin (zk hadd hsub))
  ·exact ⟨⟨⟨_,a'+m,n' - m⟩,hp2,by simp only;omega⟩,by simp only [AS.le,leT,leH,zf,AsgK,AV.le,AV.leL,AObj.le,inH,idsT,idsH,AV.ids,AV.idsL,AV.idsR,AObj.ids,lk,hget,go_sem,aeq,aeq.aeqF,simprocAttr,hPc,zb6]<;>and_intros<;>rfl,by simp only;omega⟩
  ·exact ⟨_,_,rfl⟩
def cutR (x:List AV):List D:=match x with
 | [.agg [.d a,.d b,.d c]]=> [a,b,c]
 |_=> []
theorem zu4 (l:List (Nat×Nat×Nat)):(l.map zb6).map cutR=l.map cutD:=by rw [List.map_map];rfl
@[go_sem] abbrev hC3 (u v:Nat) (l:List (List D)):AHeap:= [(1,.var [.d (.int .i64 v)]),(0,.var [.d (.int .i64 u)]),(3,.arr 3 l),(2,.var [.osl 3 3 l.length 0 l.length])]
theorem zkG (a n:Nat) (hb:a+n≤1100000000) (hn:n≤100000):ACall Tryz.prog 114 2 [.nils 3,.fn (.func 115) [] [.vp 1 0,.vp 0 0]] (hPc a n) (fun r h'=>r= .osl 3 3 (cuts a n).length 0 (cuts a n).length∧∃u v:Nat,h'=hC3 u v ((cuts a n).map cutD)):=by
 refine bod Tryz.func114 Tryz.ntmps114 (fun base=>?_)
 have hcl:=zkE n a
 refine' zb9 fx
 refine zge 2 0 3 (cs:= [.nils 3]) rfl rfl ?_
 simp only [go_sem,aeq,aeq.aeqF,simprocAttr]
 obtain ⟨I,hI⟩:∃I:List (List AV)→AHeap×Option (List (List AV)),I=fun xs=>([(3,.arr 3 (xs.map cutR)),(2,.var [.osl 3 3 xs.length 0 xs.length])],some []):=⟨_,rfl⟩
 refine zhb (Kit:=fun g h'=>(∀xs,g=some xs→xs=(cuts a n).map zb6)∧∃u v:Nat,h'=hPc u v) (items:=(cuts a n).map zb6) (fl:=4) (fun i=>decide (i<2)) I (fun _ _ _=>False) rfl rfl (zkF a n hb) (z2 rfl) (by simp [cxOf]) (zsR ?_) (by simp [AV.idsL,AV.ids]) ?_ ?_ (by rw [hI]) ?_ (fun _ _ _ h=>h.elim) ?_ (by intro x hx;obtain ⟨q,_,rfl⟩:=List.mem_map.1 hx;rfl) (by simp [cxOf]) ?_ ?_ (fun _ _ _ _ _ h=>h.elim)
 ·simp [hsel,inH,idsH,AObj.ids,AV.idsL,AV.ids,hget]
 ·rw [hI]
  simp [hsel,leH,hget,AObj.le,AV.leL,AV.le]
 ·rw [hI]
  simp [inH,idsH,AObj.ids,AV.idsL,AV.ids,hget]
 ·intro xs _ i hi
  rw [hI] at hi
  simp only [hget] at hi
  repeat' split at hi
  all_goals first|(simp;omega)|simp at hi
 ·rintro gg h' ⟨h1,u,v,rfl⟩
  refine ⟨fun i hi=>?_,h1⟩
  simp only [hget] at hi
  repeat' split at hi
  all_goals first|(simp;omega)|simp at hi
 ·intro xs x hpre l1 r1
  obtain ⟨q,hq,rfl⟩:=List.mem_map.1 (hpre.subset (List.mem_append_right _ (List.mem_singleton.2 rfl)))
  have hxl:=hpre.length_le
  simp only [List.length_append,List.length_map,List.length_cons,List.length_nil] at hxl
  obtain ⟨m,d',b'⟩:=q
  simp only [zb6]
  refine aw_le ⟨[(7,true,.agg [.d (.int .i64 m),.d (.int .i64 d'),.d (.int .i64 b')]),(2,true,.vp 2 0)],[(3,.arr 3 (xs.map cutR)),(2,.var [.osl 3 3 xs.length 0 xs.length])],some []⟩ (by rw [hI];simp only [AS.le,leT,leH,zf,AsgK,AV.le,AV.leL,AObj.le,inH,idsT,idsH,AV.ids,AV.idsL,AV.idsR,AObj.ids,lk,hget,go_sem,aeq,aeq.aeqF,simprocAttr]) ?_
  refine' zb9 hI
  all_goals first|omega|(simp;done)|skip
  all_goals (rw [List.map_append];rfl)
 ·rintro h1 ⟨_,u,v,rfl⟩
  rw [hI]
  simp only [zu4,List.length_map]
  refine' zb9 fx
  exact ⟨u,v,by simp⟩
theorem znX (a n:Nat) (hb:a+n≤1100000000) (hn:n≤100000):ACall Tryz.prog 82 2 [.fn (.func 115) [] [.vp 1 0,.vp 0 0]] (hPc a n) (fun r h'=>r= .osl 3 3 (cuts a n).length 0 (cuts a n).length∧∃u v:Nat,h'=hC3 u v ((cuts a n).map cutD)):=by
 refine bod Tryz.func82 Tryz.ntmps82 (fun base=>?_)
 refine' zc fx
 refine ((zkG a n hb hn).whole (z2 rfl) (Nat.le_refl _) ?_).mono ?_
 ·rintro r h' ⟨_,u,v,rfl⟩ i hi
  simp only [hget] at hi ⊢
  repeat' split at hi
  all_goals first|(simp_all;done)|skip
 rintro r h' ⟨rfl,u,v,rfl⟩
 refine' zc fx
 exact ⟨u,v,rfl⟩
theorem zqE (a n:Nat):ACall Tryz.prog 83 0 [.d (.int .i64 a),.d (.int .i64 n)] [] (fun r h'=>r= .fn (.func 115) [] [.vp 1 0,.vp 0 0]∧h'=hPc a n):=by
 refine bod Tryz.func83 Tryz.ntmps83 (fun base=>?_)
 refine' zc fx
def cutsL (a n:Int):List (Nat×Nat×Nat):=if a<0∨n<0∨1073741824<a∨65536<n then [] else cuts a.toNat n.toNat
theorem zwQ (a n:Int) (_:True):AC 43 [.d (.int .i64 a),.d (.int .i64 n)] (.d (.sl 3 ((cutsL a n).map cutD))):=by
 refine fbod Tryz.func43 Tryz.ntmps43 (fun base=>?_)
 cases hb:(decide (a<0)||decide (n<0)||decide (1073741824<a)||decide (65536<n)) with
 |true=>
  refine' zc hb
  rw [cutsL,if_pos (by simpa [or_assoc] using hb)]
  rfl
 | false=>
  have hb':¬(a<0∨n<0∨1073741824<a∨65536<n):=by simp at hb;omega
  obtain ⟨x,rfl⟩:∃x:Nat,a=x:=⟨a.toNat,by omega⟩
  obtain ⟨y,rfl⟩:∃y:Nat,n=y:=⟨n.toNat,by omega⟩
  have hcl:=zkE y x
  refine' zc hb
  refine ((zqE x y).whole (z2 rfl) (Nat.le_refl _) (by rintro r h' _ i hi;simp [hget] at hi)).mono ?_
  rintro r h' ⟨rfl,rfl⟩
  simp only [go_sem,aeq,aeq.aeqF,simprocAttr,hPc]
  refine ((znX x y (by omega) (by omega)).whole (z2 rfl) (Nat.zero_le _) ?_).mono ?_
  ·rintro r h' ⟨_,u,v,rfl⟩ i hi
   simp only [hget] at hi ⊢
   repeat' split at hi
   all_goals first|(simp_all;done)|skip
  rintro r h' ⟨rfl,u,v,rfl⟩
  simp only [go_sem,aeq,aeq.aeqF,simprocAttr,hC3]
  refine' zc fx
  rw [cutsL,if_neg hb']
  rfl
@[go_sem] noncomputable def zbA:Ent Tryz.prog 43:= .m2 (intT .i64) (intT .i64) zwQ
end Go.Aw
