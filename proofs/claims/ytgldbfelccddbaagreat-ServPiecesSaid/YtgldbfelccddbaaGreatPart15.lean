/-
 Parts of the proof: lemmas.
-/
import Derived.Test.YtgldbfelccddbaaGreatPart14
set_option maxRecDepth 100000
set_option maxHeartbeats 2000000
set_option linter.unusedSimpArgs false
set_option linter.unusedVariables false
namespace Go.Aw
open Go Go.Proofs
structure Root where
 l1:Int
 next:Int
 deriving DecidableEq
def rootA (r:Root):AV:= .agg [.d (.int .i64 r.l1),.d (.int .u32 r.next)]
attribute [go_sem] rootA
theorem zvU (r:Root):Root.mk r.l1 r.next=r:=rfl
noncomputable def zn5:PT Root:=aggT (consL (intT .i64) (consL (intT .u32) nilL)) (fun p=>⟨p.1,p.2.1⟩) (fun x=>(x.l1,x.next,())) (fun _=>rfl)
attribute [go_sem] zn5
attribute [go_sem] zvU
def zto:Txt:= [67,79,70,82]
def zen (r:Root):Txt:=zto++putN r.l1.toNat 2++putN r.next.toNat 4
def zn6 (r:Root):Txt:=padR (zen r++zgh (sumOf 0 (zen r)))
def zdN (s:Txt):Root:=⟨((takeN ((s.drop 4).take 2):Nat):Int),((takeN ((s.drop 6).take 4):Nat):Int)⟩
def rootT (s:Txt):Root×Int:=
 if s.take 4≠zto then (⟨0,0⟩,14)
 else if zgh (sumOf 0 (s.take 10))≠(s.take 14).drop 10 then (⟨0,0⟩,15)
 else if zaA (zdN s).l1=false∨zn6 (zdN s)≠s then (⟨0,0⟩,14)
 else (zdN s,0)
def zR (d:Disk) (p:Plan):Root×Int:=if (plook d p 1).2≠0 then (⟨0,0⟩,(plook d p 1).2) else rootT (plook d p 1).1
def zeo (p:Plan) (r:Root):Plan×Int:=if zaA r.l1=false then (p,10) else pset p 1 (zn6 r)
theorem zms (r:Root):(zen r).length=10:=by
 rw [zen,List.length_append,List.length_append,zu,zu];rfl
theorem zqS (s:Txt):0≤(zdN s).l1∧(zdN s).l1≤65535∧0≤(zdN s).next∧(zdN s).next≤4294967295:=by
 have h1:=zdf (l:=(s.drop 4).take 2) (i:=2) ax
 have h2:=zdf (l:=(s.drop 6).take 4) (i:=4) ax
 simp only [zdN]
 omega
theorem zkT (k:Int) (_:True):AC 159 [.d (.int .i64 k)] (.d (.bool (zaA k))):=by
 refine bod Tryz.func159 Tryz.ntmps159 (fun base=>?_)
 refine' zc fx
 rfl
@[go_sem] noncomputable def zco:Ent Tryz.prog 159:= .m1 (intT .i64) zkT
theorem zbT {x:Int} (h0:0≤x) (h1:x≤4294967295):IntKind.u32.wrap x=x:=by rw [IntKind.wrap_u32];omega
theorem zqT (t:Root) (hp:0≤t.l1∧t.l1≤65535∧0≤t.next∧t.next≤4294967295):AC 160 [rootA t] (.d (.str (zn6 t))):=by
 obtain ⟨h0,h1,h2,h3⟩:=hp
 refine fbod Tryz.func160 Tryz.ntmps160 (fun base=>?_)
 have hw1:IntKind.u64.wrap t.l1=t.l1:=zA h0 U
 have hw2:IntKind.u64.wrap t.next=t.next:=zA h2 U
 have hl1:=zu t.l1.toNat 2
 have hl2:=zu t.next.toNat 4
 have hhd:(67:UInt8)::79::70::82::putN t.l1.toNat 2++putN t.next.toNat 4=zen t:=rfl
 have hhl:=zms t
 have hs:=zfT 0 (zen t) U U
 have hbl:=zfo (sumOf 0 (zen t))
 refine' walkW (zo hw1 hw2 @zjH @zeR @List.length_cons.{0} (zo @List.length_nil.{0} hl1 hl2 hhd hhl (zj hbl @List.length_append.{0}))) (za zt <| za zbi <| za zax <| za zgZ <| zb _)
 rfl
@[go_sem] noncomputable def zdO:Ent Tryz.prog 160:= .m1 zn5 zqT
theorem zmt (d:Disk) (p:Plan) (h:DP d p):ACall Tryz.prog 170 0 [diskA d,planA p] [] (fun r _=>r= .tup [rootA (zR d p).1,.d (.int .i64 (zR d p).2)]):=by
 refine fbod Tryz.func170 Tryz.ntmps170 (fun base=>?_)
 have h1:=h.dok
 have h2:=h.pok
 have h3:=h.plen
 by_cases he:(plook d p 1).2=0
 ·have hb:((plook d p 1).2 !=0)=false:=by simpa using he
  have h64:=zkS h he
  have hrg:zR d p=rootT (plook d p 1).1:=by rw [zR,if_neg aj]
  obtain ⟨S,hS⟩:∃S,S=(plook d p 1).1:=⟨_,rfl⟩
  rw [← hS] at h64 hrg
  have hr:=zqS S
  have htk:List.take S.length S=S:=List.take_length
  have ht2:=zin (s:=S.drop 4) (z:=2) 2 rfl U U ar
  have ht4:=zin (s:=S.drop 6) (z:=4) 4 rfl U U ar
  have hwl:IntKind.i64.wrap (zdN S).l1=(zdN S).l1:=zi U U
  have hwn:IntKind.u32.wrap (zdN S).next=(zdN S).next:=zbT U U
  simp only [zdN] at hwl hwn hr
  have hL1:(List.take 10 S).length≤64:=ax
  have hL2:(List.drop 4 S).length≤64:=ar
  have hL3:(List.drop 6 S).length≤64:=ar
  have hsr:=zfT 0 (S.take 10) U U
  refine' walkW (zo hS.symm hb htk ht2 ht4 (zj hwl hwn)) (za zQ <| za zbi <| za zax <| za zp <| za zco <| za zdO <| zb _)
  all_goals (rw [hrg,rootT];clear ht2 ht4 hwl hwn htk;simp_all [zdN,zto];done)
 ·have hb:((plook d p 1).2 !=0)=true:=by simpa using he
  refine' walkW hb (za zQ <| za zbi <| za zax <| za zp <| za zco <| za zdO <| zb _)
  rw [zR,if_pos he]
@[go_sem] noncomputable def zw:Ent Tryz.prog 170:= .ofL (consL zV (consL zaY nilL)) (fun (d,p,_)=>DP d p) (fun (d,p,_)=> .tup [rootA (zR d p).1,.d (.int .i64 (zR d p).2)]) (fun (d,p,_) hp=>⟨rfl,zmt d p hp⟩)
theorem ztp (p:Plan) (t:Root) (hp:pfit p=true∧0≤t.next∧t.next≤4294967295):AC 88 [planA p,rootA t] (.tup [planA (zeo p t).1,.d (.int .i64 (zeo p t).2)]):=by
 obtain ⟨hp,h2,h3⟩:=hp
 refine fbod Tryz.func88 Tryz.ntmps88 (fun base=>?_)
 obtain ⟨hl,h24,h64⟩:=zbH hp
 have hpo:PlanOk p:=⟨U,U⟩
 by_cases hk:zaA t.l1=true
 ·obtain ⟨hk0,hk1⟩:=hostOk_iff.1 hk
  refine' walkW hk (za zco <| za zdO <| za za7 <| zb _)
  rw [zeo,if_neg (by rw [hk];exact fun h=>aB)]
 ·have hk:zaA t.l1=false:=by simpa using hk
  refine' walkW hk (za zco <| za zdO <| za za7 <| zb _)
  rw [zeo,if_pos hk]
@[go_sem] noncomputable def zn7:Ent Tryz.prog 88:= .m2 zaY zn5 ztp
open Go Go.Proofs
def pfill (d:Disk) (p:Plan) (fr k:Int):Plan×Int:=if fr<0 then eblank p k else ecopy d p fr k
def pless (d:Disk) (p:Plan) (fr:Int):Plan×Int:=if fr<0 then (p,0) else radd d p fr (-1)
def pfresh (d:Disk) (p:Plan) (g:Geom) (l1 i fr:Int):Plan×Int×Int:=
 if (rtake d p g).2.2≠0 then (p,0,(rtake d p g).2.2)
 else if (pfill d (rtake d p g).1 fr (rtake d p g).2.1).2≠0 then (p,0,(pfill d (rtake d p g).1 fr (rtake d p g).2.1).2)
 else if (pless d (pfill d (rtake d p g).1 fr (rtake d p g).2.1).1 fr).2≠0 then (p,0,(pless d (pfill d (rtake d p g).1 fr (rtake d p g).2.1).1 fr).2)
 else if (eset d (pless d (pfill d (rtake d p g).1 fr (rtake d p g).2.1).1 fr).1 l1 i ⟨1,(rtake d p g).2.1⟩).2≠0 then (p,0,(eset d (pless d (pfill d (rtake d p g).1 fr (rtake d p g).2.1).1 fr).1 l1 i ⟨1,(rtake d p g).2.1⟩).2)
 else ((eset d (pless d (pfill d (rtake d p g).1 fr (rtake d p g).2.1).1 fr).1 l1 i ⟨1,(rtake d p g).2.1⟩).1,(rtake d p g).2.1,0)
def pown2 (d:Disk) (p:Plan) (g:Geom) (l1 i:Int):Plan×Int×Int:=
 if (eget d p l1 i).2≠0 then (p,0,(eget d p l1 i).2) else if (eget d p l1 i).1.kind=2 then (p,0,14)
 else if (eget d p l1 i).1.kind=0 then pfresh d p g l1 i (-1) else if (rget d p (eget d p l1 i).1.loc).2≠0 then (p,0,(rget d p (eget d p l1 i).1.loc).2)
 else if (rget d p (eget d p l1 i).1.loc).1≤1 then (p,(eget d p l1 i).1.loc,0) else pfresh d p g l1 i (eget d p l1 i).1.loc
def pown (d:Disk) (p:Plan) (g:Geom) (guest:Int):Plan×Int×Int:=
 if guest<0∨g.guest≤guest then (p,0,10) else if (zR d p).2≠0 then (p,0,(zR d p).2) else pown2 d p g (zR d p).1.l1 (guest / 16)
def zoc (d:Disk) (p q:Plan) (t i:Int) (x:Ent2):Plan×Int:=
  if (eget d q t i).2≠0 then (p,(eget d q t i).2)
  else if (eget d q t i).1.kind=1 then
    (if (radd d q (eget d q t i).1.loc (-1)).2≠0 then (p,(radd d q (eget d q t i).1.loc (-1)).2)
     else if (eset d (radd d q (eget d q t i).1.loc (-1)).1 t i x).2≠0 then (p,(eset d (radd d q (eget d q t i).1.loc (-1)).1 t i x).2) else ((eset d (radd d q (eget d q t i).1.loc (-1)).1 t i x).1,0))
  else if (eset d q t i x).2≠0 then (p,(eset d q t i x).2) else ((eset d q t i x).1,0)
def ppoint (d:Disk) (p:Plan) (g:Geom) (guest:Int) (x:Ent2):Plan×Int:=
 if (pown d p g guest).2.2≠0 then (p,(pown d p g guest).2.2) else zoc d p (pown d p g guest).1 (pown d p g guest).2.1 (guest % 16) x
theorem DP.pfill {d:Disk} {p:Plan} (h:DP d p) (a b:Int):DP d (pfill d p a b).1:=by unfold Aw.pfill;split;exact h.eblank _;exact h.ecopy _ _
theorem DP.pless {d:Disk} {p:Plan} (h:DP d p) (a:Int):DP d (pless d p a).1:=by unfold Aw.pless;split;exact h;exact h.radd _ _
theorem DP.pfresh {d:Disk} {p:Plan} (h:DP d p) (g:Geom) (l1 i fr:Int):DP d (pfresh d p g l1 i fr).1:=by
 unfold Aw.pfresh
 split
 ·exact h
 split
 ·exact h
 split
 ·exact h
 split
 ·exact h
 ·exact (((h.rtake g).pfill _ _).pless _).eset _ _ _
theorem DP.pown {d:Disk} {p:Plan} (h:DP d p) (g:Geom) (guest:Int):DP d (pown d p g guest).1:=by
 unfold Aw.pown
 split
 ·exact h
 split
 ·exact h
 unfold Aw.pown2
 split
 ·exact h
 split
 ·exact h
 split
 ·exact h.pfresh _ _ _ _
 split
 ·exact h
 split
 ·exact h
 ·exact h.pfresh _ _ _ _
theorem DP.ppoint {d:Disk} {p:Plan} (h:DP d p) (g:Geom) (guest:Int) (x:Ent2):DP d (ppoint d p g guest x).1:=by
 have ho:=h.pown g guest
 unfold Aw.ppoint
 split
 ·exact h
 unfold zoc
 split
 ·exact h
 split
 ·split
  ·exact h
  split
  ·exact h
  ·exact (ho.radd _ _).eset _ _ _
 ·split
  ·exact h
  ·exact ho.eset _ _ _
theorem zod (d:Disk) (p:Plan) (g:Geom) (l1 i fr:Int) (hp:DP d p∧g.host≤1000000):AC 387 [diskA d,planA p,geomA g,.d (.int .i64 l1),.d (.int .i64 i),.d (.int .i64 fr)] (.tup [planA (pfresh d p g l1 i fr).1,.d (.int .i64 (pfresh d p g l1 i fr).2.1),.d (.int .i64 (pfresh d p g l1 i fr).2.2)]):=by
 obtain ⟨h,hg⟩:=hp
 refine fbod Tryz.func387 Tryz.ntmps387 (fun base=>?_)
 have h1:=h.rtake g
 have h2:=h1.p
 rw [pfresh]
 obtain ⟨T,hT⟩:∃T,T=rtake d p g:=⟨_,rfl⟩
 rw [← hT] at h1 h2 ⊢
 by_cases hfr:fr<0
 ·have hd1:decide (fr<0)=true:=decide_eq_true hfr
  have hd2:decide (0≤fr)=false:=decide_eq_false U
  have e1:∀q k,pfill d q fr k=eblank q k:=fun q k=>by rw [pfill,if_pos hfr]
  have e2:∀q,pless d q fr=(q,0):=fun q=>by rw [pless,if_pos hfr]
  simp only [e1,e2]
  have h3:=h1.eblank T.2.1
  obtain ⟨B,hB⟩:∃B,B=eblank T.1 T.2.1:=⟨_,rfl⟩
  rw [← hB] at h3 ⊢
  obtain ⟨C,hC⟩:∃C,C=eset d B.1 l1 i ⟨1,T.2.1⟩:=⟨_,rfl⟩
  rw [← hC]
  refine' walkW (zaB hd1 hd2 hT.symm hB.symm hC.symm) (za zay <| za zgl <| za zhv <| za zbS <| za zep <| zb _)
  all_goals (clear h1 h2 h3 hT hB hC e1 e2 hd1 hd2;simp_all;done)
 ·have hd1:decide (fr<0)=false:=decide_eq_false hfr
  have hd2:decide (0≤fr)=true:=decide_eq_true U
  have e1:∀q k,pfill d q fr k=ecopy d q fr k:=fun q k=>by rw [pfill,if_neg hfr]
  have e2:∀q,pless d q fr=radd d q fr (-1):=fun q=>by rw [pless,if_neg hfr]
  simp only [e1,e2]
  have h3:=h1.ecopy fr T.2.1
  obtain ⟨B,hB⟩:∃B,B=ecopy d T.1 fr T.2.1:=⟨_,rfl⟩
  rw [← hB] at h3 ⊢
  have h4:=h3.radd fr (-1)
  obtain ⟨N,hN⟩:∃N,N=radd d B.1 fr (-1):=⟨_,rfl⟩
  rw [← hN] at h4 ⊢
  obtain ⟨C,hC⟩:∃C,C=eset d N.1 l1 i ⟨1,T.2.1⟩:=⟨_,rfl⟩
  rw [← hC]
  refine' walkW (zo hd1 hd2 hT.symm hB.symm hN.symm hC.symm) (za zay <| za zgl <| za zhv <| za zbS <| za zep <| zb _)
  all_goals (clear h1 h2 h3 h4 hT hB hC hN e1 e2 hd1 hd2;simp_all;done)
@[go_sem] noncomputable def zgm:Ent Tryz.prog 387:= .m6 zV zaY zfU (intT .i64) (intT .i64) (intT .i64) zod
open Go Go.Proofs
theorem ztw (d:Disk) (p:Plan) (g:Geom) (k:Int) (hp:DP d p∧g.host≤1000000∧g.guest≤1000000):AC 340 [diskA d,planA p,geomA g,.d (.int .i64 k)] (.tup [planA (pown d p g k).1,.d (.int .i64 (pown d p g k).2.1),.d (.int .i64 (pown d p g k).2.2)]):=by
 obtain ⟨h,hg,hh⟩:=hp
 refine fbod Tryz.func340 Tryz.ntmps340 (fun base=>?_)
 by_cases hk:k<0∨g.guest≤k
 ·have hdec:(decide (k<0)||decide (g.guest≤k))=true:=by simpa using hk
  refine' walkW hdec (za zw <| za zcE <| za zae <| za zgm <| zb _)
  rw [pown,if_pos hk]
 have hdec:(decide (k<0)||decide (g.guest≤k))=false:=bJ
 rw [pown,if_neg hk]
 obtain ⟨R,hR⟩:∃R,R=zR d p:=⟨_,rfl⟩
 rw [← hR]
 have hw1:IntKind.i64.wrap (k.tdiv 16)=k / 16:=ea
 obtain ⟨I,hI⟩:∃I,I=k / 16:=⟨_,rfl⟩
 rw [← hI]
 obtain ⟨X,hX⟩:∃X,X=eget d p R.1.l1 I:=⟨_,rfl⟩
 obtain ⟨N,hN⟩:∃N,N=rget d p X.1.loc:=⟨_,rfl⟩
 rw [pown2,← hX,← hN]
 refine' walkW (zo hdec hw1 hR.symm hI.symm hX.symm hN.symm) (za zw <| za zcE <| za zae <| za zgm <| zb _)
 all_goals (clear hR hI hX hN hw1 hdec;first|(simp_all;done)|(simp_all;simp only [if_neg (show ¬N.1≤1 by omega)];simp;done))
@[go_sem] noncomputable def zio:Ent Tryz.prog 340:= .m4 zV zaY zfU (intT .i64) ztw
theorem zoe (d:Disk) (p:Plan) (g:Geom) (k:Int) (x:Ent2) (hp:DP d p∧g.host≤1000000∧g.guest≤1000000):AC 272 [diskA d,planA p,geomA g,.d (.int .i64 k),entA x] (.tup [planA (ppoint d p g k x).1,.d (.int .i64 (ppoint d p g k x).2)]):=by
 obtain ⟨h,hg,hh⟩:=hp
 refine fbod Tryz.func272 Tryz.ntmps272 (fun base=>?_)
 have h1:=h.pown g k
 by_cases he:(pown d p g k).2.2=0
 ·have hb:((pown d p g k).2.2 !=0)=false:=by simpa using he
  have hk0:0≤k∧k<g.guest:=by
   unfold pown at he
   by_cases hk:k<0∨g.guest≤k
   ·rw [if_pos hk] at he;cases he
   ·omega
  rw [ppoint,if_neg aj]
  obtain ⟨O,hO⟩:∃O,O=pown d p g k:=⟨_,rfl⟩
  rw [← hO] at h1 ⊢
  have hw2:k.tmod 16=k % 16:=Int.tmod_eq_emod_of_nonneg U
  obtain ⟨I,hI⟩:∃I,I=k % 16:=⟨_,rfl⟩
  obtain ⟨X,hX⟩:∃X,X=eget d O.1 O.2.1 I:=⟨_,rfl⟩
  have h2:=h1.radd X.1.loc (-1)
  obtain ⟨N,hN⟩:∃N,N=radd d O.1 X.1.loc (-1):=⟨_,rfl⟩
  rw [← hN] at h2
  obtain ⟨S,hS⟩:∃S,S=eset d N.1 O.2.1 I x:=⟨_,rfl⟩
  obtain ⟨S',hS'⟩:∃S',S'=eset d O.1 O.2.1 I x:=⟨_,rfl⟩
  rw [zoc,← hI,← hX,← hN,← hS,← hS']
  rw [← hO] at hb
  have hx1:eset d N.1 O.2.1 I ⟨x.kind,x.loc⟩=S:=hS.symm
  have hx2:eset d O.1 O.2.1 I ⟨x.kind,x.loc⟩=S':=hS'.symm
  refine' walkW (zo hw2 hO.symm hI.symm hX.symm hN.symm (zq hb hx1 hx2)) (za zio <| za zcE <| za zbS <| za zep <| zb _)
  all_goals (clear hO hI hX hN hS hS' hx1 hx2 hw2 h1 h2 hb;simp_all;done)
 ·have hb:((pown d p g k).2.2 !=0)=true:=by simpa using he
  refine' walkW hb (za zio <| za zcE <| za zbS <| za zep <| zb _)
  rw [ppoint,if_pos he]
@[go_sem] noncomputable def zU:Ent Tryz.prog 272:= .m5 zV zaY zfU (intT .i64) zjJ zoe
open Go Go.Proofs
theorem zxP (a b:Img):(decide (a.disk=b.disk)&&(a.geom.guest==b.geom.guest&&a.geom.host==b.geom.host)&&(a.jour.seq==b.jour.seq&&a.jour.pos==b.jour.pos)&&decide (a.maps=b.maps)&&(a.broken==b.broken))=decide (a=b):=by
 obtain ⟨d,⟨g,h⟩,⟨s,p⟩,m,br⟩:=a
 obtain ⟨d',⟨g',h'⟩,⟨s',p'⟩,m',br'⟩:=b
 rw [Bool.eq_iff_iff]
 simp only [Bool.and_eq_true,beq_iff_eq,decide_eq_true_eq,Img.mk.injEq,Geom.mk.injEq,Jour.mk.injEq]
 constructor
 ·rintro ⟨⟨⟨⟨h1,h2⟩,h3⟩,h4⟩,h5⟩;exact ⟨h1,h2,h3,h4,h5⟩
 ·rintro ⟨h1,h2,h3,h4,h5⟩;exact ⟨⟨⟨⟨h1,h2⟩,h3⟩,h4⟩,h5⟩
theorem zqW (a b:Img) (hp:ImgOk a∧ImgOk b):AC 16 [imgA a,imgA b] (.d (.bool (decide (a=b)))):=by
 obtain ⟨ha,hb⟩:=hp
 refine fbod Tryz.func16 Tryz.ntmps16 (fun base=>?_)
 have h1:=ha.disk
 have h2:=hb.disk
 have h3:=ha.maps
 have h4:=hb.maps
 have h5:=ha.bits
 have h6:=hb.bits
 refine' walkW fx (za znU <| za zi5 <| zb _)
 rw [zxP]
@[go_sem] noncomputable def zbo:Ent Tryz.prog 16:= .m2 zbk zbk zqW
def mset (g:Nat) (m:Dmap):Dmap:= { m with bits:=m.bits.set g true }
def cmark (x:Img) (guest:Int):Img:=if guest<0∨64≤guest then x else { x with maps:=x.maps.map (mset guest.toNat) }
theorem zv0 (m:Dmap) (g:Nat):(dmapD m).set (2+g) (.bool true)=dmapD (mset g m):=by
 rw [Nat.add_comm]
 simp [dmapD,mset,List.map_set]
theorem zv1 {m:Dmap} (h:m.bits.length=64):(dmapD m).length=66:=by simp [dmapD,h]
theorem zv2 {x:Img} (h:ImgOk x) (g:Int):ImgOk (cmark x g):=by
 unfold cmark
 split
 ·exact h
 ·refine ⟨h.disk,by simp only [List.length_map];exact h.maps,fun m hm=>?_,fun m hm=>?_⟩
  ·obtain ⟨m0,h0,rfl⟩:=List.mem_map.1 hm
   exact h.names m0 h0
  ·obtain ⟨m0,h0,rfl⟩:=List.mem_map.1 hm
   simp [mset,h.bits m0 h0]
theorem zqX (x:Img) (guest:Int) (hp:ImgOk x∧x.maps.length≤1000000):AC 267 [imgA x,.d (.int .i64 guest)] (imgA (cmark x guest)):=by
 obtain ⟨h,h2⟩:=hp
 refine fbod Tryz.func267 Tryz.ntmps267 (fun base=>?_)
 by_cases hg:guest<0∨64≤guest
 ·have hdec:(decide (guest<0)||decide (64≤guest))=true:=by simpa using hg
  refine' zc hdec
  rw [cmark,if_pos hg]
 ·have hdec:(decide (guest<0)||decide (64≤guest))=false:=by simpa using hg
  obtain ⟨g,rfl⟩:∃g:Nat,guest=g:=⟨guest.toNat,U⟩
  have hg2:g<64:=U
  refine' zc hdec
  obtain ⟨n,hn⟩:∃n,n=x.maps.length:=⟨_,rfl⟩
  refine zk (fun q: { i:Nat // i≤x.maps.length } =>⟨[(1,true,.d (.int .i64 g)),(2,true,.vp 0 0),(4,true,.vp 1 0),(5,true,.osl 2 66 x.maps.length 0 x.maps.length),(6,true,.d (.int .i64 q.1))],[(2,.arr 66 (((x.maps.take q.1).map (mset g)++x.maps.drop q.1).map dmapD)),(1,.var [.d (.str []),.nils 2,.d (.int .i64 0),.d (.bool false),.nils 1,.d (.int .i64 0),.d (.int .i64 0),.d (.int .u64 0),.d (.int .i64 0),.nils 66,.d (.bool false)]),(0,.var [.d (.str x.disk.data),.d (.sl 2 (x.disk.cache.map putD)),.d (.int .i64 x.disk.fuse),.d (.bool x.disk.off),.d (.sl 1 (x.disk.bad.map intD)),.d (.int .i64 x.geom.guest),.d (.int .i64 x.geom.host),.d (.int .u64 x.jour.seq),.d (.int .i64 x.jour.pos),.d (.sl 66 (x.maps.map dmapD)),.d (.bool x.broken)])],some []⟩) (fun q=>x.maps.length - q.1) ⟨0,Nat.zero_le _⟩ le1 (fun q=>?_)
  obtain ⟨i,hi⟩:=q
  simp only
  have hL:((x.maps.take i).map (mset g)++x.maps.drop i).length=x.maps.length:=af
  rcases Nat.lt_or_ge i x.maps.length with hlt|hge
  ·obtain ⟨m,hq⟩:=zaH hlt
   have hcmp:decide ((i:Int)<(x.maps.length:Int))=true:=decide_eq_true U
   have hwi:=zn (i:=i) U
   have hL1:((x.maps.take i).map (mset g)).length=i:=af
   have hat:((x.maps.take i).map (mset g)++x.maps.drop i)[i]?=some m:=by rw [List.getElem?_append_right U,hL1,Nat.sub_self,List.getElem?_drop,Nat.add_zero,hq]
   have hrow:=zbJ (g:=dmapD) hat
   have hset:((x.maps.take i).map (mset g)++x.maps.drop i).set i (mset g m)=(x.maps.take (i+1)).map (mset g)++x.maps.drop (i+1):=by
    rw [List.set_append,if_neg U,hL1,Nat.sub_self,zeg hq,zcz hq,List.map_append,List.append_assoc]
    rfl
   refine' zc (zq hcmp hL hrow)
   have hnew:(((x.maps.take i).map (mset g)++x.maps.drop i).map dmapD).set i ((dmapD m).set (2+g*1) (.bool true))=((x.maps.take (i+1)).map (mset g)++x.maps.drop (i+1)).map dmapD:=by
    rw [Nat.mul_one,zv0,← List.map_set,hset]
   exact ⟨⟨i+1,U⟩,by simp only [AS.le,leT,leH,zf,AsgK,AV.le,AV.leL,AObj.le,inH,idsT,idsH,AV.ids,AV.idsL,AV.idsR,AObj.ids,lk,hget,go_sem,aeq,aeq.aeqF,simprocAttr,hwi,hnew],af⟩
  ·have hcmp:decide ((i:Int)<(x.maps.length:Int))=false:=decide_eq_false U
   refine' zc (zj hcmp hL)
   rw [cmark,if_neg hg,show i=x.maps.length by omega,List.take_length,List.drop_length,List.append_nil,List.take_of_length_le aa]
   rfl
@[go_sem] noncomputable def zab:Ent Tryz.prog 267:= .m2 zbk (intT .i64) zqX
theorem bneP {a b:Int} (h:(a !=b)=true):a≠b:=bne_iff_ne.1 h
theorem bneN {a b:Int} (h:(a !=b)=false):¬a≠b:=fun h2=>h2 (bne_eq_false_iff_eq.1 h)
theorem beqP {a b:Int} (h:(a==b)=true):a=b:=beq_iff_eq.1 h
theorem beqN {a b:Int} (h:(a==b)=false):¬a=b:=beq_eq_false_iff_ne.1 h
@[go_sem] theorem p0_fold:Plan.mk [] []=p0:=rfl
def zcP (d:Disk) (k:Int):Txt×Int:=
 if (dread d (96+2*k)).2≠0 then ([],(dread d (96+2*k)).2)
 else if (dread d (96+2*k+1)).2≠0 then ([],(dread d (96+2*k+1)).2)
 else ((dread d (96+2*k)).1++(dread d (96+2*k+1)).1,0)
theorem zkW (d:Disk) (k:Int) (hp:DiskF d∧zaA k=true):AC 337 [diskA d,.d (.int .i64 k)] (.tup [.d (.str (zcP d k).1),.d (.int .i64 (zcP d k).2)]):=by
 obtain ⟨h,hk⟩:=hp
 refine fbod Tryz.func337 Tryz.ntmps337 (fun base=>?_)
 have h1:=h.ok
 have h2:=h.puts
 have hk2:=hostOk_iff.1 hk
 have hw:IntKind.i64.wrap (96+2*k+1)=96+2*k+1:=zi U U
 have hl1:=zgf (at_:=96+2*k) h2
 have hl2:=zgf (at_:=96+2*k+1) h2
 refine' walkW hw (za zX <| za zbe <| zb _)
 ·rw [zcP,if_pos (bneP hc)]
 ·rename_i hc0
  rw [zcP,if_neg (bneN hc0),if_pos (bneP hc)]
 ·rename_i hc0
  rw [zcP,if_neg (bneN hc0),if_neg (bneN hc)]
@[go_sem] noncomputable def zis:Ent Tryz.prog 337:= .m2 zV (intT .i64) zkW
theorem zjM {d:Disk} {p:Plan} {l1 g:Int} (h:(elook d p l1 g).1.kind=1):zaA (elook d p l1 g).1.loc=true:=by
 have hk:∀t i,(eget d p t i).1.kind=1→zaA (eget d p t i).1.loc=true:=by
  intro t i hk
  by_cases he:(eget d p t i).2=0
  ·have:=(ztr he).1
   unfold entOk at this
   rw [if_pos hk] at this
   exact this
  ·exfalso
   unfold eget at hk he
   split at hk
   ·cases hk
   ·rename_i h0
    rw [if_neg h0] at he
    split at hk
    ·cases hk
    ·rename_i h2
     rw [if_neg h2] at he
     unfold entT at hk he
     split at hk
     ·cases hk
     ·rename_i h1
      rw [if_neg h1] at he
      exact he rfl
 unfold elook at h ⊢
 split at h
 ·cases h
 split at h
 ·cases h
 split at h
 ·cases h
 split at h
 ·cases h
 rename_i h1 h2 h3 h4
 rw [if_neg h1,if_neg h2,if_neg h3,if_neg h4]
 exact hk _ _ h
def cread (d:Disk) (l1 guest:Int):Txt×Int:=
 if (elook d p0 l1 guest).2≠0 then ([],(elook d p0 l1 guest).2) else if (elook d p0 l1 guest).1.kind=1 then zcP d (elook d p0 l1 guest).1.loc else (List.replicate 128 0,0)
theorem zqY (d:Disk) (l1 guest:Int) (h:DiskF d):AC 266 [diskA d,.d (.int .i64 l1),.d (.int .i64 guest)] (.tup [.d (.str (cread d l1 guest).1),.d (.int .i64 (cread d l1 guest).2)]):=by
 refine fbod Tryz.func266 Tryz.ntmps266 (fun base=>?_)
 have hdp:DP d p0:=⟨h,zdw⟩
 have hk1:(elook d p0 l1 guest).1.kind=1→zaA (elook d p0 l1 guest).1.loc=true:=zjM
 refine' walkW fx (za zF <| za zis <| zb _)
 ·rw [cread,if_pos (bneP hc)]
 ·exact hk1 (beqP hc)
 ·rename_i hc0
  rw [cread,if_neg (bneN hc0),if_pos (beqP hc)]
 ·rfl
 ·rename_i hc0
  rw [cread,if_neg (bneN hc0),if_neg (beqN hc)]
  rfl
@[go_sem] noncomputable def zY:Ent Tryz.prog 266:= .m3 zV (intT .i64) (intT .i64) zqY
def cdone (x:Img) (p:Plan):Img×Int:=
 if (jcommit x.disk x.jour p).2.2≠0 then ({ x with disk:=(jcommit x.disk x.jour p).1,broken:=true },(jcommit x.disk x.jour p).2.2)
 else ({ x with disk:=(jcommit x.disk x.jour p).1,jour:=(jcommit x.disk x.jour p).2.1 },0)
theorem zjN (x:Img) (p:Plan) (h:ImgOk x) (hd:DiskF x.disk) (hf:pfit p=true) (h0:0≤x.jour.seq) (h1:x.jour.seq<18446744073709551616):ACall Tryz.prog 232 0 [imgA x,planA p] [] (fun r _=>r= .tup [imgA (cdone x p).1,.d (.int .i64 (cdone x p).2)]):=by
 refine fbod Tryz.func232 Tryz.ntmps232 (fun base=>?_)
 refine' walkW fx (za zkQ <| zb _)
 ·rw [cdone,if_pos (bneP hc)]
 ·rw [cdone,if_neg (bneN hc)]
@[go_sem] noncomputable def zac:Ent Tryz.prog 232:= .ofL (consL zbk (consL zaY nilL)) (fun (x,p,_)=>(ImgOk x)∧(DiskF x.disk)∧(pfit p=true)∧(0≤x.jour.seq)∧(x.jour.seq<18446744073709551616)) (fun (x,p,_)=> .tup [imgA (cdone x p).1,.d (.int .i64 (cdone x p).2)]) (fun (x,p,_) hp=>⟨rfl,zjN x p hp.1 hp.2.1 hp.2.2.1 hp.2.2.2.1 hp.2.2.2.2⟩)
open Go Go.Proofs
def zpO (d:Disk) (by_:Int):List Int→Plan→Plan×Int
 | [],q=>(q,0)
 |k::r,q=>if (radd d q k by_).2≠0 then (q,(radd d q k by_).2) else zpO d by_ r (radd d q k by_).1
def share (d:Disk) (p:Plan) (l1 by_:Int):Plan×Int:=
 if (reach d p l1).2≠0 then (p,(reach d p l1).2) else if (zpO d by_ (reach d p l1).1 p).2≠0 then (p,(zpO d by_ (reach d p l1).1 p).2) else zpO d by_ (reach d p l1).1 p
def wipe2 (x:Img) (guest kind:Int):Img×Int:=
 if (zR x.disk p0).2≠0 then (x,(zR x.disk p0).2) else if (elook x.disk p0 (zR x.disk p0).1.l1 guest).2≠0 then (x,(elook x.disk p0 (zR x.disk p0).1.l1 guest).2)
 else if (elook x.disk p0 (zR x.disk p0).1.l1 guest).1.kind=kind then (x,0)
 else if (ppoint x.disk p0 x.geom guest ⟨kind,0⟩).2≠0 then (x,(ppoint x.disk p0 x.geom guest ⟨kind,0⟩).2) else cdone x (ppoint x.disk p0 x.geom guest ⟨kind,0⟩).1
def wipe (x:Img) (guest:Int) (hole:Bool):Img×Int:=
 if x.broken then (x,24) else if guest<0∨x.geom.guest≤guest then (x,10) else wipe2 (cmark x guest) guest (if hole then 0 else 2)
open Go Go.Proofs
theorem zoq {p:Plan} {r:Root} (hp:pfit p=true):pfit (zeo p r).1=true:=by
 unfold zeo
 split
 ·exact hp
 ·exact zfn hp
end Go.Aw
