/-
  Parts of the proof: SnapD, ReachA, ReachB (short names; the readable texts lie in the repo, under wip).
-/
import Derived.Test.YtbmlikkofegdeaaGreatDoorPart32
import Derived.Test.YtbmlikkofegdeaaGreatDoorPart17
import Derived.Test.YtbmlikkofegdeaaGreatDoorPart29
import Derived.Test.YtbmlikkofegdeaaGreatDoorPart31
set_option maxRecDepth 100000
set_option maxHeartbeats 2000000
set_option linter.unusedSimpArgs false
set_option linter.unusedVariables false
namespace Go.Aw
open Go Go.Proofs
structure Ws where
 x:Img
 R:Root
 L:List Snp
 q:Plan
 e:Int
def wkV (s:Ws) (v:AV):List AV:= [.d (.str s.x.disk.data),.d (.sl 2 (s.x.disk.cache.map putD)),.d (.int .i64 s.x.disk.fuse),.d (.bool s.x.disk.off),.d (.sl 1 (s.x.disk.bad.map intD)),.d (.int .i64 s.x.geom.guest),.d (.int .i64 s.x.geom.host),.d (.int .u64 s.x.jour.seq),.d (.int .i64 s.x.jour.pos),.d (.sl 66 (s.x.maps.map dmapD)),.d (.bool s.x.broken),.d (.int .i64 s.R.l1),.d (.int .u32 s.R.next),v,.d (.sl 1 (s.q.targets.map intD)),.d (.sl 1 (s.q.texts.map strD)),.d (.int .i64 s.e)]
attribute [go_sem] wkV
@[go_sem] abbrev wkS (s:Ws):List AV:=wkV s (.d (.sl 3 (s.L.map snpD)))
structure SStp where
 f:FuncId
 fs:List AV
 cs:List AV
def stR (s:SStp):List AV:= [.fn (.func s.f) s.fs s.cs]
structure SOk (fl:Nat) (l:List SStp) (h:AHeap):Prop where
 le:leH h h:=by simp only [leH,AV.le,AV.leL,AObj.le,hget,go_sem,simprocAttr]<;>and_intros<;>rfl
 ih:inH h (idsH h):=by simp only [inH,idsH,AV.ids,AV.idsL,AV.idsR,AObj.ids,hget,go_sem,simprocAttr]
 is:inH h (21::AV.idsR (l.map stR)):=by simp only [inH,AV.ids,AV.idsL,AV.idsR,List.map_cons,List.map_nil,stR,hget,go_sem,simprocAttr]
def Runs (fl:Nat) (all:List SStp) (K:AHeap→Prop):List SStp→AHeap→Prop
 | [],h=>SOk fl all h∧K h
 |s::r,h=>SOk fl all h∧∃ (a:Ws) (u:AV),hget h 21=some (.var (wkV a u))∧(a.e≠0→Runs fl all K r h)∧(a.e=0→ACallAt Tryz.prog fl s.f (s.fs++s.cs) h (fun v h'=>∃ (b:Ws) (u:AV) (e:Int),v= .d (.int .i64 e)∧hget h' 21=some (.var (wkV b u))∧Runs fl all K r (hset h' 21 (.var (wkV { b with e:=e } u)))))
theorem Runs.ok {fl:Nat} {all:List SStp} {K:AHeap→Prop} :∀ {r:List SStp} {h:AHeap},Runs fl all K r h→SOk fl all h
 | [],_,h=>h.1
 |_::_,_,h=>h.1
theorem Runs.skip {fl:Nat} {all:List SStp} {K:AHeap→Prop} {h:AHeap} {a:Ws} (ho:SOk fl all h) (hg:hget h 21=some (.var (wkS a))) (he:a.e≠0) (hK:K h):∀r,Runs fl all K r h
 | []=>⟨ho,hK⟩
 |_::r=>⟨ho,a,_,hg,fun _=>Runs.skip ho hg he hK r,fun h0=>absurd h0 he⟩
theorem zfW {fl fl':Nat} {h:AHeap} {K:AHeap→Prop} (l:List SStp) (hl:l.length≤100) (hle:fl'≤fl) (hR:Runs fl l K l h) (hk:∀h',K h'→∀i,(hget h i).isSome→(hget h' i).isSome) (hf:∀i,(hget h i).isSome→i<fl:=by exact zat rfl):ACallAt Tryz.prog fl' 36 [.vp 21 0,.asl 1 (l.map stR)] h (fun r h'=>r= .tup []∧K h'):=by
 have h0:=hR.ok
 refine ACall.whole (fl:=fl) ?_ hf hle (fun r h' hr=>hk h' hr.2)
 refine bod Tryz.func36 Tryz.ntmps36 (fun base=>?_)
 have hlm:(l.map stR).length=l.length:=List.length_map _
 refine' zc hlm
 have hle1:∀ (g:AHeap) (k:Nat) (t:List (Nat×(Bool×AV))),SOk fl l g→leT t [(0,true,.vp 21 0),(6,true,.asl 1 (l.map stR)),(7,true,.d (.int .i64 l.length)),(8,true,.d (.int .i64 k))]→AS.le ⟨t,g,some []⟩ ⟨[(0,true,.vp 21 0),(6,true,.asl 1 (l.map stR)),(7,true,.d (.int .i64 l.length)),(8,true,.d (.int .i64 k))],g,some []⟩:=fun g k t hg ht=>⟨ht,hg.le,by simpa only [idsT,AV.ids,List.singleton_append,List.nil_append,List.append_nil] using hg.is,hg.ih,rfl⟩
 refine zk (fun q: { q:Nat×AHeap // q.1≤l.length∧Runs fl l K (l.drop q.1) q.2 } =>⟨[(0,true,.vp 21 0),(6,true,.asl 1 (l.map stR)),(7,true,.d (.int .i64 l.length)),(8,true,.d (.int .i64 q.1.1))],q.1.2,some []⟩) (fun q=>l.length - q.1.1) ⟨(0,h),Nat.zero_le _,hR⟩ (hle1 _ _ _ h0 le1) (fun q=>?_)
 obtain ⟨⟨k,g⟩,hk1,hr⟩:=q
 simp only at hk1 hr ⊢
 rcases Nat.lt_or_ge k l.length with hlt|hge
 ·obtain ⟨s,hs⟩:=zam hlt
  have hrow:=zbk (g:=stR) hs
  simp only [stR] at hrow
  have hcmp:decide ((k:Int)<(l.length:Int))=true:=decide_eq_true (by omega)
  have hwi:=zn (i:=k) (by omega)
  rw [zcF hs,Runs] at hr
  obtain ⟨hS,a,u,hw,h1,h2⟩:=hr
  by_cases he:a.e=0
  ·have hb:(a.e==0)=true:=by simpa using he
   simp only [wkV] at hw
   refine' zc (zL hcmp hrow hw hb natC hlm)
   all_goals first|omega|skip
   refine (h2 he).mono ?_
   rintro v h' ⟨b,u',e,rfl,hw',hR'⟩
   have hS':=hR'.ok
   simp only [wkV] at hw' hR' hS'
   simp only [go_sem,aeq,aeq.aeqF,simprocAttr,hw']
   refine' zc hw'
   exact ⟨⟨(k+1,_),by omega,hR'⟩,hle1 _ _ _ hS' (lev),by simp;omega⟩
  ·have hb:(a.e==0)=false:=by simpa using he
   simp only [wkV] at hw
   refine' zc (zL hcmp hrow hw hb natC hlm)
   all_goals first|omega|skip
   exact ⟨⟨(k+1,g),by omega,h1 he⟩,hle1 _ _ _ hS (lev),by simp;omega⟩
 ·have hcmp:decide ((k:Int)<(l.length:Int))=false:=decide_eq_false (by omega)
  refine' zc hcmp
  rw [List.drop_of_length_le (by omega),Runs] at hr
  exact hr.2
theorem zcJ:∀ {H H':AHeap},H.map (·.1)=H'.map (·.1)→∀i,(hget H i).isSome→(hget H' i).isSome
  | [],_,_,i,h=>by simp [hget] at h
  |(k,o)::H,[],e,i,h=>by simp at e
  | (k,o)::H,(k',o')::H',e,i,h=>by
    simp only [List.map_cons,List.cons.injEq] at e
    obtain ⟨rfl,e⟩:=e
    simp only [hget] at h ⊢
    split
    · rfl
    · rename_i hn
      rw [if_neg hn] at h
      exact zcJ e i h
theorem zeg {f:FuncId} {args:List AV} {fl:Nat} {H H':AHeap} {v:AV} (hc:ACall Tryz.prog f 60 args H (fun r h'=>r=v∧hsel (fun i=>decide (i<60)) h'=H'∧(H'.all (fun q=>q.2.ids.all fun i=>decide (i<60))=true∧v.ids.all (fun i=>decide (i<60))=true))) (hk:H.map (·.1)=H'.map (·.1):=by rfl) (hfl:∀i,(hget H i).isSome→i<60:=by exact zat rfl) (hle:fl≤60:=by omega):ACallAt Tryz.prog fl f args H (fun r h'=>r=v∧h'=H'):=by
 refine ACall.whole (fl:=60) ?_ hfl hle (fun r h' hr=>by rw [hr.2];exact zcJ hk)
 refine zR (fun i=>decide (i<60)) (hc.mono ?_)
 rintro r h' ⟨rfl,rfl,h1,h2⟩
 exact ⟨h1,h2,rfl,rfl⟩
def sbw (x:Img) (ch:Bool):Ws:=if (ch&&x.broken)=true then ⟨x,⟨0,0⟩,[],p0,24⟩ else ⟨x,(sbeg x.disk).1,(sbeg x.disk).2.1,p0,(sbeg x.disk).2.2⟩
theorem zeH (x:Img) (ch:Bool) (h:ImgF x):ACall Tryz.prog 32 20 [imgA x,.d (.bool ch)] [] (fun r h'=>r= .vp 21 0∧h'= [(21,.var (wkS (sbw x ch)))]):=by
 have hdp:DP x.disk p0:=⟨h.disk,zcw⟩
 have hdo:=h.disk.ok
 refine zR (fun i=>decide (i=21)) ?_
 refine bod Tryz.func32 Tryz.ntmps32 (fun base=>?_)
 obtain ⟨B,hB⟩:∃B:Ws→AHeap,B=fun a=> [(22,.var [.vp 21 0]),(21,.var (wkS a)),(20,.var (imgV x))]:=⟨_,rfl⟩
 obtain ⟨l,hl⟩:∃l:List SStp,l= [⟨109,[],[.vp 20 0,.vp 22 0]⟩,⟨111,[],[.vp 20 0,.vp 22 0]⟩]:=⟨_,rfl⟩
 have hok:∀a,SOk 40 l (B a):=by intro a;rw [hB,hl];exact {}
 have hse:∀a e,hset (B a) 21 (.var (wkS { a with e:=e }))=B { a with e:=e } :=by intro a e;rw [hB];rfl
 have hge:∀a,hget (B a) 21=some (.var (wkS a)):=by intro a;rw [hB];rfl
 have fin:∀e0,e0=(if (ch&&x.broken)=true then 24 else 0)→Runs 40 l (fun h'=>h'=B (sbw x ch)) l (B ⟨x,⟨0,0⟩,[],p0,e0⟩):=by
  intro e0 h0
  cases hb:(ch&&x.broken) with
  |true=>
   rw [hb,if_pos rfl] at h0
   exact Runs.skip (hok _) (hge _) (by rw [h0];show (24:Int)≠0;decide) (by rw [sbw,hb,if_pos rfl,h0]) _
  | false=>
   rw [hb,if_neg (by decide)] at h0
   subst h0
   have hs:sbw x ch=⟨x,(sbeg x.disk).1,(sbeg x.disk).2.1,p0,(sbeg x.disk).2.2⟩:=by rw [sbw,hb,if_neg (by decide)]
   rw [sbeg] at hs
   conv=>arg 4;rw [hl]
   refine ⟨hok _,_,_,hge _,fun h=>absurd rfl h,fun _=>(zeg (v:= .d (.int .i64 (zi x.disk p0).2)) (H':=B ⟨x,(zi x.disk p0).1,[],p0,0⟩) ?_ (by rw [hB];rfl) (by rw [hB];exact zat rfl)).mono ?_⟩
   ·rw [hB]
    refine bod Tryz.func109 Tryz.ntmps109 (fun base=>?_)
    refine' walkW fx (za zcx <| za zgw <| zb _)
   rintro v h' ⟨rfl,rfl⟩
   refine ⟨_,_,_,rfl,hge _,?_⟩
   rw [hse]
   by_cases he:(zi x.disk p0).2=0
   ·rw [if_neg (by simpa using he)] at hs
    refine ⟨hok _,_,_,hge _,fun h=>absurd he h,fun _=>(zeg (v:= .d (.int .i64 (snaps x.disk p0).2)) (H':=B ⟨x,(zi x.disk p0).1,(snaps x.disk p0).1,p0,(zi x.disk p0).2⟩) ?_ (by rw [hB];rfl) (by rw [hB];exact zat rfl)).mono ?_⟩
    ·rw [hB]
     refine bod Tryz.func111 Tryz.ntmps111 (fun base=>?_)
     refine' walkW fx (za zcx <| za zgw <| zb _)
    rintro v h' ⟨rfl,rfl⟩
    refine ⟨_,_,_,rfl,hge _,?_⟩
    rw [hse]
    exact ⟨hok _,by rw [hs]⟩
   ·rw [if_pos he] at hs
    exact Runs.skip (hok _) (hge _) he (by rw [hs]) _
 rw [hl,hB] at fin
 cases hb:(ch&&x.broken) with
 |true=>
  refine' zb0 (zaN 4) hb
  refine aw_le ⟨[(2,true,.vp 20 0),(5,true,.vp 22 0)],[(22,.var [.vp 21 0]),(21,.var (wkS ⟨x,⟨0,0⟩,[],p0,24⟩)),(20,.var (imgV x))],some []⟩ le1 ?_
  refine' zc fx
  refine (zfW (fl:=40) _ (by decide) (by omega) (fin 24 (by rw [hb];rfl)) (by rintro h' rfl;exact zcJ rfl)).mono ?_
  rintro r h' ⟨rfl,rfl⟩
  refine' zc fx
 |false=>
  refine' zb0 (zaN 4) hb
  refine aw_le ⟨[(2,true,.vp 20 0),(5,true,.vp 22 0)],[(22,.var [.vp 21 0]),(21,.var (wkS ⟨x,⟨0,0⟩,[],p0,0⟩)),(20,.var (imgV x))],some []⟩ le1 ?_
  refine' zc fx
  refine (zfW (fl:=40) _ (by decide) (by omega) (fin 0 (by rw [hb];rfl)) (by rintro h' rfl;exact zcJ rfl)).mono ?_
  rintro r h' ⟨rfl,rfl⟩
  refine' zc fx
open Go Go.Proofs
theorem ACall.low {P:Program} {f:FuncId} {args:List AV} {fl fl':Nat} {h:AHeap} {K:AV→AHeap→Prop} (hc:ACall P f fl args h K) (hle:fl'≤fl):ACall P f fl' args h K:=by
 refine ⟨hc.1,fun E w vs hs hr=>(hc.2 E w vs hs hr).mono ?_⟩
 rintro e w' ⟨v,E',r,h',h1,h2,h3,h4,h5⟩
 exact ⟨v,E',r,h',h1,h2,h3,h4,⟨h5.os,h5.tape,h5.output,h5.size,h5.keep,h5.own,h5.m,h5.n,fun i hi=>h5.go i (by omega)⟩⟩
def rlJ (d:Disk) (p:Plan) (t:Int):Nat→Nat→List Int×Int
 |0,_=>([],0)
 |m+1,k=>if (eget d p t k).2≠0 then ([],(eget d p t k).2) else if (eget d p t k).1.kind=1 then ((eget d p t k).1.loc::(rlJ d p t m (k+1)).1,(rlJ d p t m (k+1)).2) else rlJ d p t m (k+1)
def rlI (d:Disk) (p:Plan) (l1:Int):Nat→Nat→List Int×Int
 |0,_=>([],0)
 |m+1,i=>if (eget d p l1 i).2≠0 then ([],(eget d p l1 i).2) else if (eget d p l1 i).1.kind=2 then ([],14) else if (eget d p l1 i).1.kind=0 then rlI d p l1 m (i+1)
  else if (rlJ d p (eget d p l1 i).1.loc 16 0).2≠0 then ((eget d p l1 i).1.loc::(rlJ d p (eget d p l1 i).1.loc 16 0).1,(rlJ d p (eget d p l1 i).1.loc 16 0).2)
  else ((eget d p l1 i).1.loc::((rlJ d p (eget d p l1 i).1.loc 16 0).1++(rlI d p l1 m (i+1)).1),(rlI d p l1 m (i+1)).2)
theorem zlq {d:Disk} {p:Plan} {t:Int} :∀ (m k:Nat) (l:List Int),zdL d p t m k l=if (rlJ d p t m k).2≠0 then ([],(rlJ d p t m k).2) else (l++(rlJ d p t m k).1,0)
 |0,k,l=>by simp [zdL,rlJ]
 | m+1,k,l=>by
  rw [zdL,rlJ,show ((k:Int)+1)=((k+1:Nat):Int) by omega,zlq m (k+1)]
  by_cases h1:(eget d p t k).2=0<;>by_cases h2:(eget d p t k).1.kind=1<;>
   simp only [h1,h2,ne_eq,not_true_eq_false,not_false_eq_true,if_true,if_false,List.append_assoc,List.singleton_append]
theorem zlr {d:Disk} {p:Plan} {l1:Int} :∀ (m i:Nat) (l:List Int),zfa d p l1 m i l=if (rlI d p l1 m i).2≠0 then ([],(rlI d p l1 m i).2) else (l++(rlI d p l1 m i).1,0)
 |0,i,l=>by simp [zfa,rlI]
 | m+1,i,l=>by
  rw [zfa,rlI,show ((i:Int)+1)=((i+1:Nat):Int) by omega]
  have hJ:=zlq (d:=d) (p:=p) (t:=(eget d p l1 i).1.loc) 16 0 (l++ [(eget d p l1 i).1.loc])
  rw [show ((0:Nat):Int)=0 from rfl] at hJ
  by_cases h1:(eget d p l1 i).2=0<;>by_cases h2:(eget d p l1 i).1.kind=2<;>by_cases h3:(eget d p l1 i).1.kind=0<;>by_cases h4:(rlJ d p (eget d p l1 i).1.loc 16 0).2=0<;>
   simp only [h1,h2,h3,h4,hJ,zlr m (i+1),ne_eq,not_true_eq_false,not_false_eq_true,if_true,if_false,List.append_assoc,List.singleton_append,List.cons_append,List.nil_append,show ¬(0:Int)=2 by decide,show ¬(14:Int)=0 by decide,show ¬(2:Int)=0 by decide]
theorem zof {d:Disk} {p:Plan} {l1:Int} :reach d p l1=if (rlI d p l1 4 0).2≠0 then ([],(rlI d p l1 4 0).2) else ((rlI d p l1 4 0).1,0):=by
 have:=zlr (d:=d) (p:=p) (l1:=l1) 4 0 []
 rw [show ((0:Nat):Int)=0 from rfl,List.nil_append] at this
 exact this
theorem zrN {d:Disk} {p:Plan} {t:Int} :∀ (m k:Nat),(rlJ d p t m k).1.length≤m
 |0,k=>Nat.le_refl _
 |m+1,k=>by
  have:=zrN (d:=d) (p:=p) (t:=t) m (k+1)
  rw [rlJ]
  repeat' split
  all_goals first|exact Nat.zero_le _|(simp only [List.length_cons];omega)|omega
theorem zrO {d:Disk} {p:Plan} {l1:Int} :∀ (m i:Nat),(rlI d p l1 m i).1.length≤17*m
 |0,k=>Nat.le_refl _
 |m+1,k=>by
  have h1:=zrO (d:=d) (p:=p) (l1:=l1) m (k+1)
  have h2:=zrN (d:=d) (p:=p) (t:=(eget d p l1 k).1.loc) 16 0
  rw [rlI]
  repeat' split
  all_goals first|exact Nat.zero_le _|(simp only [List.length_cons,List.length_append];omega)|omega
def intI (k:Int):List AV:= [.d (.int .i64 k)]
@[go_sem] abbrev hRea (d:Disk) (p:Plan) (l1 e:Int):AHeap:= [(5,.var (wkP p ⟨0,0⟩ d e)),(11,.var [.d (.int .i64 l1)]),(10,.var [.vp 5 0])]
theorem zls (d:Disk) (p:Plan) (l1:Int) (h:DP d p):AIter Tryz.prog 254 20 [] [.vp 10 0,.vp 11 0] (hRea d p l1 0) ((rlI d p l1 4 0).1.map intI) (fun gg h'=>(∀xs,gg=some xs→xs=(rlI d p l1 4 0).1.map intI)∧∃e,h'=hRea d p l1 e∧(gg≠none→e=(rlI d p l1 4 0).2)):=by
 obtain ⟨L,hL⟩:∃L,L=rlI d p l1 4 0:=⟨_,rfl⟩
 rw [← hL]
 refine itr Tryz.func254 Tryz.ntmps254 (fun base y=>?_)
 refine' zal fx
 refine zk (fun q: { q:Nat×List (List AV) // q.1≤4∧q.2++(rlI d p l1 (4 - q.1) q.1).1.map intI=L.1.map intI∧(rlI d p l1 (4 - q.1) q.1).2=L.2 } =>⟨[(0,true,.fn (.yield y.yl) [] []),(1,true,.vp 10 0),(2,true,.vp 11 0),(8,true,.d (.int .i64 q.1.1))],hRea d p l1 0,some q.1.2⟩) (fun q=>4 - q.1.1) ⟨(0,[]),by show (0:Nat)≤4;omega,by rw [hL];rfl,by rw [hL];rfl⟩ (by simp only [AS.le,leT,leH,zj,AsgK,AV.le,AV.leL,AObj.le,inH,idsT,idsH,AV.ids,AV.idsL,AV.idsR,AObj.ids,lk,hget,go_sem,aeq,aeq.aeqF,simprocAttr,hRea]<;>and_intros<;>rfl) (fun q=>?_)
 obtain ⟨⟨i,xs⟩,hi,hf,hfe⟩:=q
 simp only at hi hf hfe ⊢
 rcases Nat.lt_or_ge i 4 with hlt|hge
 ·have hcmp:decide ((i:Int)<4)=true:=decide_eq_true (by omega)
  have hwi:=zn (i:=i) (by omega)
  rw [zfo hlt,rlI] at hf hfe
  obtain ⟨X,hX⟩:∃X,X=eget d p l1 i:=⟨_,rfl⟩
  have hwg:wget d ⟨p,0⟩ l1 i=(X.1,⟨p,X.2⟩):=by rw [wget,if_neg (by simp),hX]
  rw [← hX] at hf hfe
  refine' zal hcmp
  refine ((zun ⟨0,0⟩ d ⟨p,0⟩ l1 i h).one (fl':=20) rfl rfl (zat rfl) rfl (by simp [AObj.ids,AV.idsL,AV.ids,wkP]) (by simp [AV.idsL,AV.ids]) (by omega)).mono ?_
  rintro r h' ⟨ob',⟨rfl,rfl⟩,rfl⟩
  simp only [hwg]
  simp only [go_sem,aeq,aeq.aeqF,simprocAttr]
  refine hK _ ?_
  clear hK K
  by_cases he:X.2=0
  ·have hb:(X.2==0)=true:=by simpa using he
   have hb2:(X.2 !=0)=false:=by simpa using he
   rw [if_neg (by simpa using he)] at hf hfe
   have hk3:=(zfM (zre (by rw [← hX];exact he)).1).1
   rw [← hX] at hk3
   by_cases h2:X.1.kind=2
   ·have hk2:(X.1.kind==2)=true:=by simpa using h2
    rw [if_pos h2] at hf hfe
    refine' zal (zA hb hb2 hk2)
    ·rintro zs rfl
     rw [← hf]
     simp
    ·exact ⟨14,rfl,hfe⟩
   have hk2:(X.1.kind==2)=false:=by simpa using h2
   rw [if_neg h2] at hf hfe
   by_cases h0:X.1.kind=0
   ·have hk0:(X.1.kind==1)=false:=by simp;omega
    rw [if_pos h0] at hf hfe
    refine' zal (z8 hb hb2 hk2 hk0)
    refine zk (fun _:Unit=>⟨[(0,true,.fn (.yield y.yl) [] []),(1,true,.vp 10 0),(2,true,.vp 11 0),(5,true,.vp 20 0),(6,true,.d (.int .i64 0)),(8,true,.d (.int .i64 i))],(20,.var [.d (.int .i64 X.1.kind),.d (.int .i64 X.1.loc)])::hRea d p l1 0,some xs⟩) (fun _=>0) () (by simp only [AS.le,leT,leH,zj,AsgK,AV.le,AV.leL,AObj.le,inH,idsT,idsH,AV.ids,AV.idsL,AV.idsR,AObj.ids,lk,hget,go_sem,aeq,aeq.aeqF,simprocAttr,hRea,he]<;>and_intros<;>rfl) (fun _=>?_)
    refine' zal hk0
    exact ⟨⟨(i+1,xs),by show i+1≤4;omega,hf,hfe⟩,by simp only [AS.le,leT,leH,zj,AsgK,AV.le,AV.leL,AObj.le,inH,idsT,idsH,AV.ids,AV.idsL,AV.idsR,AObj.ids,lk,hget,go_sem,aeq,aeq.aeqF,simprocAttr,hwi,hRea],by simp;omega⟩
   have h1:X.1.kind=1:=by omega
   have hk1:(X.1.kind==1)=true:=by simpa using h1
   rw [if_neg h0] at hf hfe
   obtain ⟨loc,hloc⟩:∃loc,loc=X.1.loc:=⟨_,rfl⟩
   rw [← hloc] at hf hfe
   obtain ⟨J0,hJ0⟩:∃J0,J0=rlJ d p loc 16 0:=⟨_,rfl⟩
   obtain ⟨R,hR⟩:∃R,R=rlI d p l1 (4 - (i+1)) (i+1):=⟨_,rfl⟩
   rw [← hJ0,← hR] at hf hfe
   obtain ⟨S,hS⟩:∃S:List Int,S=if J0.2≠0 then [] else R.1:=⟨_,rfl⟩
   have hf1:xs++intI loc::((J0.1.map intI)++S.map intI)=L.1.map intI:=by
    rw [← hf,hS]
    by_cases h4:J0.2=0
    ·rw [if_neg (by simpa using h4),if_neg (by simpa using h4)];simp
    ·rw [if_pos h4,if_pos h4];simp
   have hf2:J0.2≠0→J0.2=L.2∧S= []:=fun h4=>by rw [if_pos h4] at hfe hS;exact ⟨hfe,hS⟩
   have hf3:J0.2=0→R.2=L.2∧S=R.1:=fun h4=>by rw [if_neg (by simpa using h4)] at hfe hS;exact ⟨hfe,hS⟩
   have hpr:(xs++ [[.d (.int .i64 loc)]])<+:L.1.map intI:=⟨(J0.1.map intI)++S.map intI,by rw [← hf1];simp [intI]⟩
   clear hf hfe
   refine' zal (zL hb hb2 hk2 hk1 hloc.symm he)
   ·refine zk (fun q: { q:Nat×List (List AV) // q.1≤16∧q.2++((rlJ d p loc (16 - q.1) q.1).1.map intI++S.map intI)=L.1.map intI∧(rlJ d p loc (16 - q.1) q.1).2=J0.2 } =>⟨[(0,true,.fn (.yield y.yl) [] []),(1,true,.vp 10 0),(2,true,.vp 11 0),(5,true,.vp 20 0),(6,true,.d (.int .i64 q.1.1)),(8,true,.d (.int .i64 i))],(20,.var [.d (.int .i64 X.1.kind),.d (.int .i64 loc)])::hRea d p l1 0,some q.1.2⟩) (fun q=>16 - q.1.1) ⟨(0,xs++ [[.d (.int .i64 loc)]]),by show (0:Nat)≤16;omega,by rw [← hf1];simp [intI,hJ0],by rw [hJ0];rfl⟩ (by simp only [AS.le,leT,leH,zj,AsgK,AV.le,AV.leL,AObj.le,inH,idsT,idsH,AV.ids,AV.idsL,AV.idsR,AObj.ids,lk,hget,go_sem,aeq,aeq.aeqF,simprocAttr,hRea,he]<;>and_intros<;>rfl) (fun q=>?_)
    obtain ⟨⟨j,ys⟩,hj,hg,hge2⟩:=q
    simp only at hj hg hge2 ⊢
    rcases Nat.lt_or_ge j 16 with hjl|hjg
    ·have hcj:decide ((j:Int)<16)=true:=decide_eq_true (by omega)
     have hwj:=zn (i:=j) (by omega)
     rw [zfo hjl,rlJ] at hg hge2
     obtain ⟨Y,hY⟩:∃Y,Y=eget d p loc j:=⟨_,rfl⟩
     have hwg2:wget d ⟨p,0⟩ loc j=(Y.1,⟨p,Y.2⟩):=by rw [wget,if_neg (by simp),hY]
     rw [← hY] at hg hge2
     refine' zal (zp hcj hk1)
     refine ((zun ⟨0,0⟩ d ⟨p,0⟩ loc j h).one (fl':=20) rfl rfl (zat rfl) rfl (by simp [AObj.ids,AV.idsL,AV.ids,wkP]) (by simp [AV.idsL,AV.ids]) (by omega)).mono ?_
     rintro r h' ⟨ob',⟨rfl,rfl⟩,rfl⟩
     simp only [hwg2]
     simp only [go_sem,aeq,aeq.aeqF,simprocAttr]
     refine hK _ ?_
     clear hK K
     by_cases hye:Y.2=0
     ·have hyb:(Y.2 !=0)=false:=by simpa using hye
      rw [if_neg (by simpa using hye)] at hg hge2
      by_cases hy1:Y.1.kind=1
      ·have hyk:(Y.1.kind==1)=true:=by simpa using hy1
       rw [if_pos hy1] at hg hge2
       have hpr2:(ys++ [[.d (.int .i64 Y.1.loc)]])<+:L.1.map intI:=⟨((rlJ d p loc (16 - (j+1)) (j+1)).1.map intI)++S.map intI,by rw [← hg];simp [intI]⟩
       refine' zal (zA hyb hyk hye)
       ·exact ⟨⟨(j+1,ys++ [[.d (.int .i64 Y.1.loc)]]),by show j+1≤16;omega,by rw [← hg];simp [intI],hge2⟩,by simp only [AS.le,leT,leH,zj,AsgK,AV.le,AV.leL,AObj.le,inH,idsT,idsH,AV.ids,AV.idsL,AV.idsR,AObj.ids,lk,hget,go_sem,aeq,aeq.aeqF,simprocAttr,hwj,hRea],by simp;omega⟩
       exact ⟨0,rfl⟩
      ·have hyk:(Y.1.kind==1)=false:=by simpa using hy1
       rw [if_neg hy1] at hg hge2
       refine' zal (zA hyb hyk hye)
       exact ⟨⟨(j+1,ys),by show j+1≤16;omega,hg,hge2⟩,by simp only [AS.le,leT,leH,zj,AsgK,AV.le,AV.leL,AObj.le,inH,idsT,idsH,AV.ids,AV.idsL,AV.idsR,AObj.ids,lk,hget,go_sem,aeq,aeq.aeqF,simprocAttr,hwj,hRea],by simp;omega⟩
     ·have hyb:(Y.2 !=0)=true:=by simpa using hye
      rw [if_pos (by simpa using hye)] at hg hge2
      have hJne:J0.2≠0:=by rw [← hge2];exact hye
      refine' zal hyb
      ·rintro zs rfl
       rw [← hg,(hf2 hJne).2]
       simp
      ·exact ⟨Y.2,rfl,by rw [← (hf2 hJne).1];exact hge2⟩
    ·have hcj:decide ((j:Int)<16)=false:=decide_eq_false (by omega)
     have hj16:j=16:=by omega
     subst hj16
     rw [show 16 - 16=0 from rfl,rlJ] at hg hge2
     have hJ3:=hf3 hge2.symm
     refine' zal hcj
     exact ⟨⟨(i+1,ys),by show i+1≤4;omega,by rw [← hR,← hJ3.2,← hg];simp,by rw [← hR];exact hJ3.1⟩,by simp only [AS.le,leT,leH,zj,AsgK,AV.le,AV.leL,AObj.le,inH,idsT,idsH,AV.ids,AV.idsL,AV.idsR,AObj.ids,lk,hget,go_sem,aeq,aeq.aeqF,simprocAttr,hwi,hRea],by simp;omega⟩
   exact ⟨0,rfl⟩
  ·have hb:(X.2==0)=false:=by simpa using he
   have hb2:(X.2 !=0)=true:=by simpa using he
   rw [if_pos (by simpa using he)] at hf hfe
   refine' zal (zp hb hb2)
   ·rintro zs rfl
    rw [← hf]
    simp
   ·exact ⟨X.2,rfl,hfe⟩
 ·have hcmp:decide ((i:Int)<4)=false:=decide_eq_false (by omega)
  have h4:i=4:=by omega
  subst h4
  rw [show 4 - 4=0 from rfl,rlI] at hf hfe
  refine' zal hcmp
  ·rintro zs rfl
   rw [← hf]
   simp
  ·exact ⟨0,rfl,hfe⟩
open Go Go.Proofs
@[go_sem] abbrev hRe0 (d:Disk) (p:Plan):AHeap:= [(6,.var [.nils 1]),(5,.var (wkP p ⟨0,0⟩ d 0)),(4,(.var [.d (.sl 1 (p.targets.map intD)),.d (.sl 1 (p.texts.map strD))])),(3,(.var [.d (.str d.data),.d (.sl 2 (d.cache.map putD)),.d (.int .i64 d.fuse),.d (.bool d.off),.d (.sl 1 (d.bad.map intD))]))]
theorem zpD (d:Disk) (p:Plan) (l1:Int):ACall Tryz.prog 211 10 [.vp 5 0,.d (.int .i64 l1)] (hRe0 d p) (fun r h'=>r= .fn (.func 254) [] [.vp 10 0,.vp 11 0]∧h'=(11,.var [.d (.int .i64 l1)])::(10,.var [.vp 5 0])::hRe0 d p):=by
 refine bod Tryz.func211 Tryz.ntmps211 (fun base=>?_)
 refine' zc fx
theorem zrP {p:Nat→Bool} {h:AHeap} (hin:inH (hsel p h) (idsH (hsel p h))):zfz p h:=fun i o ho hp j hj=>by
 have h1:hget (hsel p h) i=some o:=by rw [zx,if_pos hp];exact ho
 have:=zf1 hin j (zfu h1 j hj)
 rw [zx] at this
 cases hb:p j with
 |true=>rfl
 |false=>rw [hb] at this;simp at this
theorem zm6 (d:Disk) (p:Plan) (l1:Int) (h:DP d p):ACall Tryz.prog 155 3 [diskA d,planA p,.d (.int .i64 l1)] [] (fun r h'=>((reach d p l1).2≠0∧r= .tup [.nils 1,.d (.int .i64 (reach d p l1).2)]∧∃a,h'= [(12,.arr 1 a)])∨((reach d p l1).2=0∧r= .tup [.osl 12 1 (reach d p l1).1.length 0 (reach d p l1).1.length,.d (.int .i64 0)]∧h'= [(12,.arr 1 ((reach d p l1).1.map intD))])):=by
 refine zR (fun i=>decide (i=12)) ?_
 refine bod Tryz.func155 Tryz.ntmps155 (fun base=>?_)
 have hr:=zof (d:=d) (p:=p) (l1:=l1)
 have hll:=zrO (d:=d) (p:=p) (l1:=l1) 4 0
 have hit:=zls d p l1 h
 obtain ⟨L,hL⟩:∃L,L=rlI d p l1 4 0:=⟨_,rfl⟩
 rw [← hL] at hr hll hit
 refine' zdo fx
 refine ((zpD d p l1).whole (zat rfl) (by omega) ?_).mono ?_
 ·rintro r h' ⟨rfl,rfl⟩ i hi
  revert hi
  simp only [hget]
  repeat' split
  all_goals simp
 rintro r h' ⟨rfl,rfl⟩
 refine' zdo fx
 refine zqb 6 0 1 (cs:= [.nils 1]) rfl rfl ?_
 obtain ⟨I,hI⟩:∃I:List (List AV)→AHeap×Option (List (List AV)),I=fun xs=>([(12,.arr 1 ((L.1.take xs.length).map intD)),(6,.var [.osl 12 1 xs.length 0 xs.length]),(4,(.var [.d (.sl 1 (p.targets.map intD)),.d (.sl 1 (p.texts.map strD))])),(3,(.var [.d (.str d.data),.d (.sl 2 (d.cache.map putD)),.d (.int .i64 d.fuse),.d (.bool d.off),.d (.sl 1 (d.bad.map intD))]))],some []):=⟨_,rfl⟩
 refine aw_le ⟨[(8,true,.vp 5 0),(9,true,.vp 6 0),(17,true,.fn (.func 254) [] [.vp 10 0,.vp 11 0])],(12,.arr 1 [])::(6,.var [.osl 12 1 0 0 0])::(4,(.var [.d (.sl 1 (p.targets.map intD)),.d (.sl 1 (p.texts.map strD))]))::(3,(.var [.d (.str d.data),.d (.sl 2 (d.cache.map putD)),.d (.int .i64 d.fuse),.d (.bool d.off),.d (.sl 1 (d.bad.map intD))]))::hRea d p l1 0,some []⟩ (by simp only [AS.le,leT,leH,zj,AsgK,AV.le,AV.leL,AObj.le,inH,idsT,idsH,AV.ids,AV.idsL,AV.idsR,AObj.ids,lk,hget,go_sem,aeq,aeq.aeqF,simprocAttr,fresh,top,hset,hRea]) ?_
 refine zgF (Kit:=fun gg h'=>(∀xs,gg=some xs→xs=L.1.map intI)∧∃e,h'=hRea d p l1 e∧(gg≠none→e=L.2)) (items:=L.1.map intI) (fl:=20) (fun i=>i==5||i==10||i==11) I (fun _ _ _=>False) rfl rfl hit (zat rfl) (by simp [cxOf]) (zrP ?_) (by simp [AV.idsL,AV.ids]) ?_ ?_ (by rw [hI]) ?_ (fun _ _ _ h=>h.elim) ?_ (by intro x hx;obtain ⟨q,_,rfl⟩:=List.mem_map.1 hx;rfl) (by simp [cxOf]) ?_ ?_ (fun _ _ _ _ _ h=>h.elim)
 ·simp [hsel,inH,idsH,AObj.ids,AV.idsL,AV.ids,hget,wkP]
 ·rw [hI]
  simp [hsel,leH,hget,AObj.le,AV.leL,AV.le]
 ·rw [hI]
  simp [inH,idsH,AObj.ids,AV.idsL,AV.ids,hget]
 ·intro xs _ i hi
  rw [hI] at hi
  simp only [hget] at hi
  repeat' split at hi
  all_goals first|(simp;omega)|simp at hi
 ·rintro gg h' ⟨h1,e,rfl,h2⟩
  refine ⟨fun i hi=>?_,h1⟩
  simp only [hget] at hi
  repeat' split at hi
  all_goals first|(simp;omega)|simp at hi
 ·intro xs x hpre l2 r1
  obtain ⟨ys,q,zs,hys,rfl,hzl⟩:=zex hpre
  have hln:xs.length=ys.length:=by rw [hys];simp
  have hqL:L.1[xs.length]?=some q:=by rw [hzl,hln];simp
  have htk:=za9 hqL
  have hxl:=(List.getElem?_eq_some_iff.1 hqL).1
  obtain ⟨A,hA⟩:∃A:List (List D),A=(L.1.take xs.length).map intD:=⟨_,rfl⟩
  have hAl:A.length=xs.length:=by rw [hA,List.length_map,List.length_take];omega
  simp only [intI]
  refine aw_le ⟨[(18,true,.d (.int .i64 q)),(9,true,.vp 6 0)],[(12,.arr 1 A),(6,.var [.osl 12 1 xs.length 0 xs.length]),(4,(.var [.d (.sl 1 (p.targets.map intD)),.d (.sl 1 (p.texts.map strD))])),(3,(.var [.d (.str d.data),.d (.sl 2 (d.cache.map putD)),.d (.int .i64 d.fuse),.d (.bool d.off),.d (.sl 1 (d.bad.map intD))]))],some []⟩ (by rw [hI,hA];simp only [AS.le,leT,leH,zj,AsgK,AV.le,AV.leL,AObj.le,inH,idsT,idsH,AV.ids,AV.idsL,AV.idsR,AObj.ids,lk,hget,go_sem,aeq,aeq.aeqF,simprocAttr]) ?_
  refine' zdo (zL hAl hI @List.length_append.{0} htk @List.map_append.{0,0} hA.symm)
  rfl
 ·rintro h1 ⟨_,e,rfl,he⟩
  obtain rfl:=he (by simp)
  rw [hI]
  by_cases hz:L.2=0
  ·have hb:(L.2 !=0)=false:=by simpa using hz
   rw [if_neg (by simpa using hz)] at hr
   refine' zdo (zA hb @List.length_map.{0,0} @List.take_length.{0})
   all_goals first|rfl|skip
   rw [hr]
   exact .inr ⟨rfl,rfl,rfl⟩
  ·have hb:(L.2 !=0)=true:=by simpa using hz
   rw [if_pos hz] at hr
   refine' zdo hb
   all_goals first|rfl|skip
   rw [hr]
   exact .inl ⟨hz,rfl,_,rfl⟩
theorem zrQ (d:Disk) (p:Plan) (l1:Int) (h:DP d p):AC 155 [diskA d,planA p,.d (.int .i64 l1)] (.tup [.d (.sl 1 ((reach d p l1).1.map intD)),.d (.int .i64 (reach d p l1).2)]):=by
 refine zhm (((zm6 d p l1 h).low (Nat.zero_le _)).mono ?_)
 have hr:=zof (d:=d) (p:=p) (l1:=l1)
 rintro r h' (⟨hz,rfl,a,rfl⟩|⟨hz,rfl,rfl⟩)
 ·have he:(reach d p l1).1= []:=by
   rw [hr] at hz ⊢
   split
   ·rfl
   ·rename_i h1;rw [if_neg h1] at hz;exact absurd rfl hz
  simp only [go_sem,aeq,aeq.aeqF,simprocAttr,he]
 ·simp only [go_sem,aeq,aeq.aeqF,simprocAttr,hz,List.length_map,List.take_length,List.take_of_length_le (Nat.le_refl _)]
@[go_sem] noncomputable def zm7:Ent Tryz.prog 155:= .m3 zq zw (intT .i64) zrQ
theorem zm8 {d:Disk} {by_:Int} :∀ (l:List Int) (s:Wk),s.e≠0→l.foldl (fun s k=>wcount d s k by_) s=s
 | [],s,h=>rfl
 |k::l,s,h=>by
  have:wcount d s k by_=s:=by rw [wcount,if_pos h]
  rw [List.foldl_cons,this]
  exact zm8 l s h
theorem zrR {d:Disk} {by_:Int} :∀ (l:List Int) (q:Plan),(l.foldl (fun s k=>wcount d s k by_) (Wk.mk q 0)).e=(shareK d by_ l q).2∧((shareK d by_ l q).2=0→(l.foldl (fun s k=>wcount d s k by_) (Wk.mk q 0)).q=(shareK d by_ l q).1)
 | [],q=>⟨rfl,fun _=>rfl⟩
 | k::l,q=>by
  have hw:wcount d ⟨q,0⟩ k by_=⟨(radd d q k by_).1,(radd d q k by_).2⟩:=by rw [wcount,if_neg (by simp)]
  rw [List.foldl_cons,hw,shareK]
  by_cases h:(radd d q k by_).2=0
  ·rw [if_neg (by simpa using h),h]
   exact zrR l _
  ·rw [if_pos h,zm8 l _ h]
   exact ⟨rfl,fun h2=>absurd h2 h⟩
theorem zi4 {d:Disk} {by_:Int} :∀ (l:List Int) {s:Wk},DP d s.q→DP d (l.foldl (fun s k=>wcount d s k by_) s).q
 | [],s,h=>h
 |k::l,s,h=>zi4 l (h.wcount k by_)
theorem zrS (d:Disk) (p:Plan) (l1 by_:Int) (h:DP d p):AC 123 [diskA d,planA p,.d (.int .i64 l1),.d (.int .i64 by_)] (.tup [planA (share d p l1 by_).1,.d (.int .i64 (share d p l1 by_).2)]):=by
 refine zhm (ACall.low (fl:=2) ?_ (Nat.zero_le _))
 refine bod Tryz.func123 Tryz.ntmps123 (fun base=>?_)
 have hrl:=zli (d:=d) (p:=p) (t:=l1)
 obtain ⟨W,hW⟩:∃W,W=reach d p l1:=⟨_,rfl⟩
 rw [← hW] at hrl
 have hsh:share d p l1 by_=if W.2≠0 then (p,W.2) else if (shareK d by_ W.1 p).2≠0 then (p,(shareK d by_ W.1 p).2) else shareK d by_ W.1 p:=by rw [share,hW]
 refine' walkW hW.symm (za zm7 <| zb _)
 obtain ⟨F,hF⟩:∃F:Nat→Wk,F=fun i=>(W.1.take i).foldl (fun s k=>wcount d s k by_) ⟨p,W.2⟩:=⟨_,rfl⟩
 have hF0:F 0=⟨p,W.2⟩:=by rw [hF];rfl
 have hFd:∀i,DP d (F i).q:=fun i=>by rw [hF];exact zi4 _ h
 refine zk (fun q: { i:Nat // i≤W.1.length } =>⟨[(3,true,.d (.int .i64 by_)),(4,true,.vp 2 0),(5,true,.vp 3 0),(8,true,.vp 4 0),(12,true,.vp 5 0),(27,true,.d (.sl 1 (W.1.map intD))),(28,true,.d (.int .i64 W.1.length)),(29,true,.d (.int .i64 q.1))],[(5,.var (wkP (F q.1).q ⟨0,0⟩ d (F q.1).e)),(4,.var [.nils 1,.nils 1]),(3,(.var [.d (.sl 1 (p.targets.map intD)),.d (.sl 1 (p.texts.map strD))])),(2,(.var [.d (.str d.data),.d (.sl 2 (d.cache.map putD)),.d (.int .i64 d.fuse),.d (.bool d.off),.d (.sl 1 (d.bad.map intD))]))],some []⟩) (fun q=>W.1.length - q.1) ⟨0,Nat.zero_le _⟩ (by simp only [hF0];simp only [AS.le,leT,leH,zj,AsgK,AV.le,AV.leL,AObj.le,inH,idsT,idsH,AV.ids,AV.idsL,AV.idsR,AObj.ids,lk,hget,go_sem,aeq,aeq.aeqF,simprocAttr]<;>and_intros<;>rfl) (fun q=>?_)
 obtain ⟨i,hi⟩:=q
 simp only
 rcases zM intD W.1 i hi with ⟨u,hq,hlt,hcmp,hrow,hdr,htk⟩|⟨hend,hcmp⟩
 ·simp only [intD] at hrow
  have hwi:=zn (i:=i) (by omega)
  have hFs:F (i+1)=wcount d (F i) u by_:=by rw [hF];simp only [htk,List.foldl_append,List.foldl_cons,List.foldl_nil]
  refine' zc (zp hcmp hrow)
  refine ((ztJ ⟨0,0⟩ d (F i) u by_ (hFd i)).one (fl':=2) rfl rfl (zat rfl) rfl (by simp [AObj.ids,AV.idsL,AV.ids,wkP]) (by simp [AV.idsL,AV.ids]) (by omega)).mono ?_
  rintro r h' ⟨ob',⟨rfl,rfl⟩,rfl⟩
  rw [← hFs]
  simp only [go_sem,aeq,aeq.aeqF,simprocAttr]
  refine hK _ ?_
  clear hK K
  refine' zc fx
  exact ⟨⟨i+1,by omega⟩,lev,by simp;omega⟩
 ·have hFe:F i=W.1.foldl (fun s k=>wcount d s k by_) ⟨p,W.2⟩:=by rw [hF,hend];simp only [List.take_length]
  obtain ⟨G,hG⟩:∃G,G=F i:=⟨_,rfl⟩
  rw [← hG] at hFe ⊢
  have hfin:share d p l1 by_=if G.e≠0 then (p,G.e) else (G.q,0):=by
   rw [hsh]
   by_cases hz:W.2=0
   ·rw [hz] at hFe
    obtain ⟨s1,s2⟩:=zrR (d:=d) (by_:=by_) W.1 p
    rw [← hFe] at s1 s2
    rw [if_neg (by simpa using hz),← s1]
    by_cases h5:G.e=0
    ·rw [if_neg (by simpa using h5),if_neg (by simpa using h5),s2 (by rw [← s1];exact h5),← h5,s1]
    ·rw [if_pos h5,if_pos h5]
   ·rw [zm8 _ _ hz] at hFe
    rw [if_pos hz,hFe,if_pos hz]
  by_cases h5:G.e=0
  ·have hb:(G.e !=0)=false:=by simpa using h5
   rw [if_neg (by simpa using h5)] at hfin
   refine' zc (zp hcmp hb)
   rw [hfin]
  ·have hb:(G.e !=0)=true:=by simpa using h5
   rw [if_pos h5] at hfin
   refine' zc (zp hcmp hb)
   rw [hfin]
@[go_sem] noncomputable def zdi:Ent Tryz.prog 123:= .m4 zq zw (intT .i64) (intT .i64) zrS
end Go.Aw
