/-
  Parts of the proof: RootA, PointA, PointB, SnapB (short names; the readable texts lie in the repo, under wip).
-/
import Derived.Test.YtgkjmbopnaeanaaGreatPart22
set_option maxRecDepth 100000
set_option maxHeartbeats 2000000
set_option linter.unusedSimpArgs false
set_option linter.unusedVariables false
namespace Go.Aw
open Go Go.Proofs
structure Root where
 l1:Int
 next:Int
 deriving DecidableEq
def rootA (r:Root):AV:= .agg [.d (.int .i64 r.l1),.d (.int .u32 r.next)]
attribute [go_sem] rootA
theorem zuw (r:Root):Root.mk r.l1 r.next=r:=rfl
noncomputable def zkt:PT Root:=aggT (consL (intT .i64) (consL (intT .u32) nilL)) (fun p=>⟨p.1,p.2.1⟩) (fun x=>(x.l1,x.next,())) (fun _=>rfl)
attribute [go_sem] zkt
attribute [go_sem] zuw
def zo8:Txt:= [67,79,70,82]
def zdu (r:Root):Txt:=zo8++putN r.l1.toNat 2++putN r.next.toNat 4
def zku (r:Root):Txt:=padR (zdu r++zfT (sumOf 0 (zdu r)))
def zcu (s:Txt):Root:=⟨((takeN ((s.drop 4).take 2):Nat):Int),((takeN ((s.drop 6).take 4):Nat):Int)⟩
def rootT (s:Txt):Root×Int:=
 if s.take 4≠zo8 then (⟨0,0⟩,14)
 else if zfT (sumOf 0 (s.take 10))≠(s.take 14).drop 10 then (⟨0,0⟩,15)
 else if zV (zcu s).l1=false∨zku (zcu s)≠s then (⟨0,0⟩,14)
 else (zcu s,0)
def zC (d:Disk) (p:Plan):Root×Int:=if (plook d p 1).2≠0 then (⟨0,0⟩,(plook d p 1).2) else rootT (plook d p 1).1
def zeH (p:Plan) (r:Root):Plan×Int:=if zV r.l1=false then (p,10) else pset p 1 (zku r)
theorem zhk (r:Root):(zdu r).length=10:=by
 rw [zdu,List.length_append,List.length_append,zu,zu];rfl
theorem zjE (s:Txt):0≤(zcu s).l1∧(zcu s).l1≤65535∧0≤(zcu s).next∧(zcu s).next≤4294967295:=by
 have h1:=zd6 (l:=(s.drop 4).take 2) (i:=2) (by rw [List.length_take];omega)
 have h2:=zd6 (l:=(s.drop 6).take 4) (i:=4) (by rw [List.length_take];omega)
 simp only [zcu]
 omega
theorem zkv (k:Int) (_:True):AC 100 [.d (.int .i64 k)] (.d (.bool (zV k))):=by
 refine bod Tryz.func100 Tryz.ntmps100 (fun base=>?_)
 refine' zc fx
 rfl
@[go_sem] noncomputable def zcC:Ent Tryz.prog 100:= .m1 (intT .i64) zkv
theorem zfD {x:Int} (h0:0≤x) (h1:x≤4294967295):IntKind.u32.wrap x=x:=by rw [IntKind.wrap_u32];omega
theorem zqd (t:Root) (hp:0≤t.l1∧t.l1≤65535∧0≤t.next∧t.next≤4294967295):AC 101 [rootA t] (.d (.str (zku t))):=by
 obtain ⟨h0,h1,h2,h3⟩:=hp
 refine fbod Tryz.func101 Tryz.ntmps101 (fun base=>?_)
 have hw1:IntKind.u64.wrap t.l1=t.l1:=zT h0 (by omega)
 have hw2:IntKind.u64.wrap t.next=t.next:=zT h2 (by omega)
 have hl1:=zu t.l1.toNat 2
 have hl2:=zu t.next.toNat 4
 have hhd:(67:UInt8)::79::70::82::putN t.l1.toNat 2++putN t.next.toNat 4=zdu t:=rfl
 have hhl:=zhk t
 have hs:=zf3 0 (zdu t) (by omega) (by omega)
 have hbl:=zdD (sumOf 0 (zdu t))
 refine' walkW (zq hw1 hw2 @zhj @zfd @List.length_cons.{0} (zq @List.length_nil.{0} hl1 hl2 hhd hhl (zk hbl @List.length_append.{0}))) (za zR <| za zbB <| za zaB <| za zgQ <| zb _)
 rfl
@[go_sem] noncomputable def zd9:Ent Tryz.prog 101:= .m1 zkt zqd
theorem zsl (d:Disk) (p:Plan) (h:DP d p):AC 75 [diskA d,planA p] (.tup [rootA (zC d p).1,.d (.int .i64 (zC d p).2)]):=by
 refine fbod Tryz.func75 Tryz.ntmps75 (fun base=>?_)
 have h1:=h.dok
 have h2:=h.pok
 have h3:=h.plen
 by_cases he:(plook d p 1).2=0
 ·have hb:((plook d p 1).2 !=0)=false:=by simpa using he
  have h64:=zeG h he
  have hrg:zC d p=rootT (plook d p 1).1:=by rw [zC,if_neg (by simpa using he)]
  obtain ⟨S,hS⟩:∃S,S=(plook d p 1).1:=⟨_,rfl⟩
  rw [← hS] at h64 hrg
  have hr:=zjE S
  have htk:List.take S.length S=S:=List.take_length
  have ht2:=zfc (s:=S.drop 4) (z:=2) 2 rfl (by omega) (by omega) (by rw [List.length_drop];omega)
  have ht4:=zfc (s:=S.drop 6) (z:=4) 4 rfl (by omega) (by omega) (by rw [List.length_drop];omega)
  have hwl:IntKind.i64.wrap (zcu S).l1=(zcu S).l1:=ze (by omega) (by omega)
  have hwn:IntKind.u32.wrap (zcu S).next=(zcu S).next:=zfD (by omega) (by omega)
  simp only [zcu] at hwl hwn hr
  have hL1:(List.take 10 S).length≤64:=by rw [List.length_take];omega
  have hL2:(List.drop 4 S).length≤64:=by rw [List.length_drop];omega
  have hL3:(List.drop 6 S).length≤64:=by rw [List.length_drop];omega
  have hsr:=zf3 0 (S.take 10) (by omega) (by omega)
  refine' walkW (zq hS.symm hb htk ht2 ht4 (zk hwl hwn)) (za z6 <| za zbB <| za zaB <| za zaS <| za zcC <| za zd9 <| zb _)
  all_goals (rw [hrg,rootT];clear ht2 ht4 hwl hwn htk;simp_all [zcu,zo8];done)
 ·have hb:((plook d p 1).2 !=0)=true:=by simpa using he
  refine' walkW hb (za z6 <| za zbB <| za zaB <| za zaS <| za zcC <| za zd9 <| zb _)
  rw [zC,if_pos he]
@[go_sem] noncomputable def zw:Ent Tryz.prog 75:= .m2 zA zN zsl
theorem zsm (p:Plan) (t:Root) (hp:pfit p=true∧0≤t.next∧t.next≤4294967295):AC 70 [planA p,rootA t] (.tup [planA (zeH p t).1,.d (.int .i64 (zeH p t).2)]):=by
 obtain ⟨hp,h2,h3⟩:=hp
 refine fbod Tryz.func70 Tryz.ntmps70 (fun base=>?_)
 obtain ⟨hl,h24,h64⟩:=zaJ hp
 have hpo:PlanOk p:=⟨by omega,by omega⟩
 by_cases hk:zV t.l1=true
 ·obtain ⟨hk0,hk1⟩:=hostOk_iff.1 hk
  refine' walkW hk (za zcC <| za zd9 <| za zaY <| zb _)
  rw [zeH,if_neg (by rw [hk];exact fun h=>by cases h)]
 ·have hk:zV t.l1=false:=by simpa using hk
  refine' walkW hk (za zcC <| za zd9 <| za zaY <| zb _)
  rw [zeH,if_pos hk]
@[go_sem] noncomputable def znt:Ent Tryz.prog 70:= .m2 zN zkt zsm
theorem zqe (k:Int) (_:True):AC 145 [.d (.int .i64 k)] (.d (.bool (!zV k))):=by
 refine bod Tryz.func145 Tryz.ntmps145 (fun base=>?_)
 refine' zc fx
 rw [zct]
@[go_sem] noncomputable def zhl:Ent Tryz.prog 145:= .m1 (intT .i64) zqe
theorem zqf (t:Root) (hp:0≤t.l1∧t.l1≤65535∧0≤t.next∧t.next≤4294967295):AC 146 [rootA t] (.d (.str (zku t))):=by
 obtain ⟨h0,h1,h2,h3⟩:=hp
 refine fbod Tryz.func146 Tryz.ntmps146 (fun base=>?_)
 have hw1:IntKind.u64.wrap t.l1=t.l1:=zT h0 (by omega)
 have hw2:IntKind.u64.wrap t.next=t.next:=zT h2 (by omega)
 have hl1:=zu t.l1.toNat 2
 have hl2:=zu t.next.toNat 4
 have hhd:(67:UInt8)::79::70::82::putN t.l1.toNat 2++putN t.next.toNat 4=zdu t:=rfl
 have hhl:=zhk t
 have hbl:=zdD (sumOf 0 (zdu t))
 refine' walkW (zq hw1 hw2 @zhj @zfd @List.length_cons.{0} (zq @List.length_nil.{0} hl1 hl2 hhd hhl (zk hbl @List.length_append.{0}))) (za zbH <| za zdB <| za zbV <| za zhD <| zb _)
 rfl
@[go_sem] noncomputable def zhm:Ent Tryz.prog 146:= .m1 zkt zqf
theorem zqg (s:Txt) (at_ size:Int) (hp:0≤at_∧at_≤s.length∧s.length≤9223372036854775807):AC 144 [.d (.str s),.d (.int .i64 at_),.d (.int .i64 size)] (.d (.int .u64 (takeS (s.drop at_.toNat) size).1)):=by
 obtain ⟨h0,h1,hs⟩:=hp
 refine fbod Tryz.func144 Tryz.ntmps144 (fun base=>?_)
 have htk:List.take s.length s=s:=List.take_length
 have hL2:(List.drop at_.toNat s).length≤9223372036854775807:=by rw [List.length_drop];omega
 refine' walkW htk (za zca <| zb _)
@[go_sem] noncomputable def zhn:Ent Tryz.prog 144:= .m3 strT (intT .i64) (intT .i64) zqg
theorem zqh (d:Disk) (p:Plan) (h:DP d p):AC 117 [diskA d,planA p] (.tup [rootA (zC d p).1,.d (.int .i64 (zC d p).2)]):=by
 refine fbod Tryz.func117 Tryz.ntmps117 (fun base=>?_)
 have h1:=h.dok
 have h2:=h.pok
 have h3:=h.plen
 by_cases he:(plook d p 1).2=0
 ·have hb:((plook d p 1).2 !=0)=false:=by simpa using he
  have h64:=zeG h he
  have hrg:zC d p=rootT (plook d p 1).1:=by rw [zC,if_neg (by simpa using he)]
  obtain ⟨S,hS⟩:∃S,S=(plook d p 1).1:=⟨_,rfl⟩
  rw [← hS] at h64 hrg
  have hr:=zjE S
  have htk:List.take S.length S=S:=List.take_length
  have ht2:=zfc (s:=S.drop 4) (z:=2) 2 rfl (by omega) (by omega) (by rw [List.length_drop];omega)
  have ht4:=zfc (s:=S.drop 6) (z:=4) 4 rfl (by omega) (by omega) (by rw [List.length_drop];omega)
  have hwl:IntKind.i64.wrap (zcu S).l1=(zcu S).l1:=ze (by omega) (by omega)
  have hwn:IntKind.u32.wrap (zcu S).next=(zcu S).next:=zfD (by omega) (by omega)
  simp only [zcu] at hwl hwn hr
  have hL1:(List.take 10 S).length≤64:=by rw [List.length_take];omega
  have hpx:List.isPrefixOf [67,79,70,82] S=(S.take 4== [67,79,70,82]):=by
   rw [Bool.eq_iff_iff,List.isPrefixOf_iff_prefix,List.prefix_iff_eq_take,beq_iff_eq]
   exact ⟨fun h=>h.symm,fun h=>h.symm⟩
  refine' walkW (zq hS.symm hb htk ht2 ht4 (zr hwl hwn hpx)) (za zaE <| za zdB <| za zbV <| za zhn <| za zhl <| za zhm <| za zfP <| zb _)
  all_goals (rw [hrg,rootT];clear ht2 ht4 hwl hwn htk hpx;simp_all [zcu,zo8];done)
 ·have hb:((plook d p 1).2 !=0)=true:=by simpa using he
  refine' walkW hb (za zaE <| za zdB <| za zbV <| za zhn <| za zhl <| za zhm <| za zfP <| zb _)
  rw [zC,if_pos he]
@[go_sem] noncomputable def zj:Ent Tryz.prog 117:= .m2 zA zN zqh
open Go Go.Proofs
def pfill (d:Disk) (p:Plan) (fr k:Int):Plan×Int:=if fr<0 then eblank p k else ecopy d p fr k
def pless (d:Disk) (p:Plan) (fr:Int):Plan×Int:=if fr<0 then (p,0) else radd d p fr (-1)
def pfresh (d:Disk) (p:Plan) (g:Geom) (l1 i fr:Int):Plan×Int×Int:=
 if (rtake d p g).2.2≠0 then (p,0,(rtake d p g).2.2)
 else if (pfill d (rtake d p g).1 fr (rtake d p g).2.1).2≠0 then (p,0,(pfill d (rtake d p g).1 fr (rtake d p g).2.1).2)
 else if (pless d (pfill d (rtake d p g).1 fr (rtake d p g).2.1).1 fr).2≠0 then (p,0,(pless d (pfill d (rtake d p g).1 fr (rtake d p g).2.1).1 fr).2)
 else if (eset d (pless d (pfill d (rtake d p g).1 fr (rtake d p g).2.1).1 fr).1 l1 i ⟨1,(rtake d p g).2.1⟩).2≠0 then (p,0,(eset d (pless d (pfill d (rtake d p g).1 fr (rtake d p g).2.1).1 fr).1 l1 i ⟨1,(rtake d p g).2.1⟩).2)
 else ((eset d (pless d (pfill d (rtake d p g).1 fr (rtake d p g).2.1).1 fr).1 l1 i ⟨1,(rtake d p g).2.1⟩).1,(rtake d p g).2.1,0)
def pown2 (d:Disk) (p:Plan) (g:Geom) (l1 i:Int):Plan×Int×Int:=
 if (eget d p l1 i).2≠0 then (p,0,(eget d p l1 i).2) else if (eget d p l1 i).1.kind=2 then (p,0,14)
 else if (eget d p l1 i).1.kind=0 then pfresh d p g l1 i (-1) else if (rget d p (eget d p l1 i).1.loc).2≠0 then (p,0,(rget d p (eget d p l1 i).1.loc).2)
 else if (rget d p (eget d p l1 i).1.loc).1≤1 then (p,(eget d p l1 i).1.loc,0) else pfresh d p g l1 i (eget d p l1 i).1.loc
def pown (d:Disk) (p:Plan) (g:Geom) (guest:Int):Plan×Int×Int:=
 if guest<0∨g.guest≤guest then (p,0,10) else if (zC d p).2≠0 then (p,0,(zC d p).2) else pown2 d p g (zC d p).1.l1 (guest / 16)
def zgW (d:Disk) (p q:Plan) (t i:Int) (x:Ent2):Plan×Int:=
  if (eget d q t i).2≠0 then (p,(eget d q t i).2)
  else if (eget d q t i).1.kind=1 then
    (if (radd d q (eget d q t i).1.loc (-1)).2≠0 then (p,(radd d q (eget d q t i).1.loc (-1)).2)
     else if (eset d (radd d q (eget d q t i).1.loc (-1)).1 t i x).2≠0 then (p,(eset d (radd d q (eget d q t i).1.loc (-1)).1 t i x).2) else ((eset d (radd d q (eget d q t i).1.loc (-1)).1 t i x).1,0))
  else if (eset d q t i x).2≠0 then (p,(eset d q t i x).2) else ((eset d q t i x).1,0)
def ppoint (d:Disk) (p:Plan) (g:Geom) (guest:Int) (x:Ent2):Plan×Int:=
 if (pown d p g guest).2.2≠0 then (p,(pown d p g guest).2.2) else zgW d p (pown d p g guest).1 (pown d p g guest).2.1 (guest % 16) x
theorem DP.pfill {d:Disk} {p:Plan} (h:DP d p) (a b:Int):DP d (pfill d p a b).1:=by unfold Aw.pfill;split;exact h.eblank _;exact h.ecopy _ _
theorem DP.pless {d:Disk} {p:Plan} (h:DP d p) (a:Int):DP d (pless d p a).1:=by unfold Aw.pless;split;exact h;exact h.radd _ _
theorem DP.pfresh {d:Disk} {p:Plan} (h:DP d p) (g:Geom) (l1 i fr:Int):DP d (pfresh d p g l1 i fr).1:=by
 unfold Aw.pfresh
 split
 ·exact h
 split
 ·exact h
 split
 ·exact h
 split
 ·exact h
 ·exact (((h.rtake g).pfill _ _).pless _).eset _ _ _
theorem DP.pown {d:Disk} {p:Plan} (h:DP d p) (g:Geom) (guest:Int):DP d (pown d p g guest).1:=by
 unfold Aw.pown
 split
 ·exact h
 split
 ·exact h
 unfold Aw.pown2
 split
 ·exact h
 split
 ·exact h
 split
 ·exact h.pfresh _ _ _ _
 split
 ·exact h
 split
 ·exact h
 ·exact h.pfresh _ _ _ _
theorem DP.ppoint {d:Disk} {p:Plan} (h:DP d p) (g:Geom) (guest:Int) (x:Ent2):DP d (ppoint d p g guest x).1:=by
 have ho:=h.pown g guest
 unfold Aw.ppoint
 split
 ·exact h
 unfold zgW
 split
 ·exact h
 split
 ·split
  ·exact h
  split
  ·exact h
  ·exact (ho.radd _ _).eset _ _ _
 ·split
  ·exact h
  ·exact ho.eset _ _ _
theorem zny (d:Disk) (p:Plan) (g:Geom) (l1 i fr:Int) (hp:DP d p∧g.host≤1000000):AC 209 [diskA d,planA p,geomA g,.d (.int .i64 l1),.d (.int .i64 i),.d (.int .i64 fr)] (.tup [planA (pfresh d p g l1 i fr).1,.d (.int .i64 (pfresh d p g l1 i fr).2.1),.d (.int .i64 (pfresh d p g l1 i fr).2.2)]):=by
 obtain ⟨h,hg⟩:=hp
 refine fbod Tryz.func209 Tryz.ntmps209 (fun base=>?_)
 have h1:=h.rtake g
 have h2:=h1.p
 rw [pfresh]
 obtain ⟨T,hT⟩:∃T,T=rtake d p g:=⟨_,rfl⟩
 rw [← hT] at h1 h2 ⊢
 by_cases hfr:fr<0
 ·have hd1:decide (fr<0)=true:=decide_eq_true hfr
  have hd2:decide (0≤fr)=false:=decide_eq_false (by omega)
  have e1:∀q k,pfill d q fr k=eblank q k:=fun q k=>by rw [pfill,if_pos hfr]
  have e2:∀q,pless d q fr=(q,0):=fun q=>by rw [pless,if_pos hfr]
  simp only [e1,e2]
  have h3:=h1.eblank T.2.1
  obtain ⟨B,hB⟩:∃B,B=eblank T.1 T.2.1:=⟨_,rfl⟩
  rw [← hB] at h3 ⊢
  obtain ⟨C,hC⟩:∃C,C=eset d B.1 l1 i ⟨1,T.2.1⟩:=⟨_,rfl⟩
  rw [← hC]
  refine' walkW (zaH hd1 hd2 hT.symm hB.symm hC.symm) (za zau <| za zgo <| za zhp <| za zbW <| za zeI <| zb _)
  all_goals (clear h1 h2 h3 hT hB hC e1 e2 hd1 hd2;simp_all;done)
 ·have hd1:decide (fr<0)=false:=decide_eq_false hfr
  have hd2:decide (0≤fr)=true:=decide_eq_true (by omega)
  have e1:∀q k,pfill d q fr k=ecopy d q fr k:=fun q k=>by rw [pfill,if_neg hfr]
  have e2:∀q,pless d q fr=radd d q fr (-1):=fun q=>by rw [pless,if_neg hfr]
  simp only [e1,e2]
  have h3:=h1.ecopy fr T.2.1
  obtain ⟨B,hB⟩:∃B,B=ecopy d T.1 fr T.2.1:=⟨_,rfl⟩
  rw [← hB] at h3 ⊢
  have h4:=h3.radd fr (-1)
  obtain ⟨N,hN⟩:∃N,N=radd d B.1 fr (-1):=⟨_,rfl⟩
  rw [← hN] at h4 ⊢
  obtain ⟨C,hC⟩:∃C,C=eset d N.1 l1 i ⟨1,T.2.1⟩:=⟨_,rfl⟩
  rw [← hC]
  refine' walkW (zq hd1 hd2 hT.symm hB.symm hN.symm hC.symm) (za zau <| za zgo <| za zhp <| za zbW <| za zeI <| zb _)
  all_goals (clear h1 h2 h3 h4 hT hB hC hN e1 e2 hd1 hd2;simp_all;done)
@[go_sem] noncomputable def zgp:Ent Tryz.prog 209:= .m6 zA zN zdl (intT .i64) (intT .i64) (intT .i64) zny
open Go Go.Proofs
theorem zsq (d:Disk) (p:Plan) (g:Geom) (k:Int) (hp:DP d p∧g.host≤1000000∧g.guest≤1000000):AC 169 [diskA d,planA p,geomA g,.d (.int .i64 k)] (.tup [planA (pown d p g k).1,.d (.int .i64 (pown d p g k).2.1),.d (.int .i64 (pown d p g k).2.2)]):=by
 obtain ⟨h,hg,hh⟩:=hp
 refine fbod Tryz.func169 Tryz.ntmps169 (fun base=>?_)
 by_cases hk:k<0∨g.guest≤k
 ·have hdec:(decide (k<0)||decide (g.guest≤k))=true:=by simpa using hk
  refine' walkW hdec (za zw <| za zcS <| za zaf <| za zgp <| zb _)
  rw [pown,if_pos hk]
 have hdec:(decide (k<0)||decide (g.guest≤k))=false:=by simpa using hk
 rw [pown,if_neg hk]
 obtain ⟨R,hR⟩:∃R,R=zC d p:=⟨_,rfl⟩
 rw [← hR]
 have hw1:IntKind.i64.wrap (k.tdiv 16)=k / 16:=by rw [Int.tdiv_eq_ediv_of_nonneg (by omega),ze (by omega) (by omega)]
 obtain ⟨I,hI⟩:∃I,I=k / 16:=⟨_,rfl⟩
 rw [← hI]
 obtain ⟨X,hX⟩:∃X,X=eget d p R.1.l1 I:=⟨_,rfl⟩
 obtain ⟨N,hN⟩:∃N,N=rget d p X.1.loc:=⟨_,rfl⟩
 rw [pown2,← hX,← hN]
 refine' walkW (zq hdec hw1 hR.symm hI.symm hX.symm hN.symm) (za zw <| za zcS <| za zaf <| za zgp <| zb _)
 all_goals (clear hR hI hX hN hw1 hdec;first|(simp_all;done)|(simp_all;simp only [if_neg (show ¬N.1≤1 by omega)];simp;done))
@[go_sem] noncomputable def zim:Ent Tryz.prog 169:= .m4 zA zN zdl (intT .i64) zsq
theorem znz (d:Disk) (p:Plan) (g:Geom) (k:Int) (x:Ent2) (hp:DP d p∧g.host≤1000000∧g.guest≤1000000):AC 130 [diskA d,planA p,geomA g,.d (.int .i64 k),entA x] (.tup [planA (ppoint d p g k x).1,.d (.int .i64 (ppoint d p g k x).2)]):=by
 obtain ⟨h,hg,hh⟩:=hp
 refine fbod Tryz.func130 Tryz.ntmps130 (fun base=>?_)
 have h1:=h.pown g k
 by_cases he:(pown d p g k).2.2=0
 ·have hb:((pown d p g k).2.2 !=0)=false:=by simpa using he
  have hk0:0≤k∧k<g.guest:=by
   unfold pown at he
   by_cases hk:k<0∨g.guest≤k
   ·rw [if_pos hk] at he;cases he
   ·omega
  rw [ppoint,if_neg (by simpa using he)]
  obtain ⟨O,hO⟩:∃O,O=pown d p g k:=⟨_,rfl⟩
  rw [← hO] at h1 ⊢
  have hw2:k.tmod 16=k % 16:=Int.tmod_eq_emod_of_nonneg (by omega)
  obtain ⟨I,hI⟩:∃I,I=k % 16:=⟨_,rfl⟩
  obtain ⟨X,hX⟩:∃X,X=eget d O.1 O.2.1 I:=⟨_,rfl⟩
  have h2:=h1.radd X.1.loc (-1)
  obtain ⟨N,hN⟩:∃N,N=radd d O.1 X.1.loc (-1):=⟨_,rfl⟩
  rw [← hN] at h2
  obtain ⟨S,hS⟩:∃S,S=eset d N.1 O.2.1 I x:=⟨_,rfl⟩
  obtain ⟨S',hS'⟩:∃S',S'=eset d O.1 O.2.1 I x:=⟨_,rfl⟩
  rw [zgW,← hI,← hX,← hN,← hS,← hS']
  rw [← hO] at hb
  have hx1:eset d N.1 O.2.1 I ⟨x.kind,x.loc⟩=S:=hS.symm
  have hx2:eset d O.1 O.2.1 I ⟨x.kind,x.loc⟩=S':=hS'.symm
  refine' walkW (zq hw2 hO.symm hI.symm hX.symm hN.symm (zr hb hx1 hx2)) (za zim <| za zcS <| za zbW <| za zeI <| zb _)
  all_goals (clear hO hI hX hN hS hS' hx1 hx2 hw2 h1 h2 hb;simp_all;done)
 ·have hb:((pown d p g k).2.2 !=0)=true:=by simpa using he
  refine' walkW hb (za zim <| za zcS <| za zbW <| za zeI <| zb _)
  rw [ppoint,if_pos he]
@[go_sem] noncomputable def zY:Ent Tryz.prog 130:= .m5 zA zN zdl (intT .i64) zfU znz
open Go Go.Proofs
theorem znY {p:Plan} {r:Root} (hp:pfit p=true):pfit (zeH p r).1=true:=by
 unfold zeH
 split
 ·exact hp
 ·exact zd8 hp
end Go.Aw
