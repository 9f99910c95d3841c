/-
 Parts of the proof: lemmas.
-/
import Derived.Test.YtgldbfelccddbaaGreatPart12
import Derived.Test.YtgldbfelccddbaaGreatPart10
set_option maxRecDepth 100000
set_option maxHeartbeats 2000000
set_option linter.unusedSimpArgs false
set_option linter.unusedVariables false
namespace Go.Aw
open Go Go.Proofs
structure Jour where
 seq:Int
 pos:Int
 deriving DecidableEq
def jourA (j:Jour):AV:= .agg [.d (.int .u64 j.seq),.d (.int .i64 j.pos)]
attribute [go_sem] jourA
theorem zvP (j:Jour):Jour.mk j.seq j.pos=j:=rfl
noncomputable def zn2:PT Jour:=aggT (consL (intT .u64) (consL (intT .i64) nilL)) (fun p=>⟨p.1,p.2.1⟩) (fun x=>(x.seq,x.pos,())) (fun _=>rfl)
attribute [go_sem] zn2
attribute [go_sem] zvP
def jfit (j:Jour):Bool:=decide (1≤j.seq)&&decide (j.seq≤4611686018427387904)&&decide (0≤j.pos)&&decide (j.pos≤81)
def zeE (pos size:Int):Int:=if pos<0∨size<0∨81<size∨81 - size<pos then 0 else pos
def numF:Int→List Txt→List (Int×Txt)
 |_,[]=> []
 |a,s::r=>(a,s)::numF (a+1) r
theorem ztk:∀ (l:List Txt) (a:Int) (i:Nat) (s:Txt),l[i]?=some s→(numF a l)[i]?=some (a+i,s)
 | [],a,i,s,h=>aY
 |x::l,a,0,s,h=>by
  have:x=s:=aM
  subst this
  simp [numF]
 |x::l,a,i+1,s,h=>by
  rw [numF,List.getElem?_cons_succ,ztk l (a+1) i s aM]
  congr 2
  omega
theorem zpI:∀ (l:List Txt) (a:Int),(numF a l).length=l.length
 | [],_=>rfl
 |x::l,a=>by rw [numF,List.length_cons,zpI l,List.length_cons]
def jtail (d:Disk) (j:Jour) (p:Plan) (L:List Txt) (A:Int):Disk×Jour×Int:=
 if (layL d (numF (6+A) L)).2≠0 then ((layL d (numF (6+A) L)).1,j,(layL d (numF (6+A) L)).2)
 else if (dflush (layL d (numF (6+A) L)).1).2≠0 then ((dflush (layL d (numF (6+A) L)).1).1,j,(dflush (layL d (numF (6+A) L)).1).2)
 else if (play (dflush (layL d (numF (6+A) L)).1).1 p).2≠0 then ((play (dflush (layL d (numF (6+A) L)).1).1 p).1,j,(play (dflush (layL d (numF (6+A) L)).1).1 p).2)
 else ((play (dflush (layL d (numF (6+A) L)).1).1 p).1,⟨j.seq+1,A+L.length⟩,0)
def jcommit (d:Disk) (j:Jour) (p:Plan):Disk×Jour×Int:=
 if p.targets.length=0 then (d,j,0) else if 4611686018427387904≤j.seq then (d,j,10)
 else if (dflush d).2≠0 then ((dflush d).1,j,(dflush d).2)
 else jtail (dflush d).1 j p (zdu j.seq p) (zeE j.pos (zdu j.seq p).length)
theorem zjF (pos size:Int):0≤zeE pos size∧zeE pos size≤81:=by
 unfold zeE
 split<;>omega
theorem zjG {p:Plan} (seq:Int) (hf:pfit p=true):(zdu seq p).length≤27∧∀s∈zdu seq p,s.length≤64:=by
 obtain ⟨hl,h24,h64⟩:=zbH hf
 refine ⟨?_,?_⟩
 ·rw [zdu,tbody,List.length_cons,List.length_append]
  have:(trows p.targets).length≤2:=by unfold trows;split<;>simp
  omega
 ·intro s hs
  rcases List.mem_cons.1 hs with rfl|hs
  ·rw [ttop,zhN]
   ·exact Nat.le_refl _
   ·rw [List.length_append,List.length_append,List.length_append,thead,List.length_append,zu,zu,zu,zfo]
    decide
  ·rw [zmr hf s hs];exact Nat.le_refl _
theorem zvQ (j:Jour) (_:True):AC 84 [jourA j] (.d (.bool (jfit j))):=by
 refine bod Tryz.func84 Tryz.ntmps84 (fun base=>?_)
 refine' zc fx
 rfl
@[go_sem] noncomputable def zfp:Ent Tryz.prog 84:= .m1 zn2 zvQ
theorem zqQ (pos size:Int) (hp:0≤size∧size≤1000):AC 348 [.d (.int .i64 pos),.d (.int .i64 size)] (.d (.int .i64 (zeE pos size))):=by
 obtain ⟨h0,h1⟩:=hp
 refine bod Tryz.func348 Tryz.ntmps348 (fun base=>?_)
 have hw:IntKind.i64.wrap (81 - size)=81 - size:=zi U U
 refine' zc hw
 ·simp only [Bool.or_eq_true,decide_eq_true_eq,or_assoc] at hc
  rw [zeE,if_pos hc]
 ·rw [zeE,if_neg]
  intro h
  have:(decide (pos<0)||decide (size<0)||decide (81<size)||decide (81 - size<pos))=true:=by
   simp only [Bool.or_eq_true,decide_eq_true_eq,or_assoc];exact h
  rw [hc] at this;cases this
@[go_sem] noncomputable def zci:Ent Tryz.prog 348:= .m2 (intT .i64) (intT .i64) zqQ
theorem zqR:ACall Tryz.prog 284 0 [] [] (fun r _=>r= .d (.int .i64 6)):=by
 refine bod Tryz.func284 Tryz.ntmps284 (fun base=>?_)
 refine' walkW fx (za znX <| zb _)
@[go_sem] noncomputable def zbn:Ent Tryz.prog 284:= .ofL nilL (fun _=>True) (fun _=> .d (.int .i64 6)) (fun _ hp=>⟨rfl,zqR⟩)
theorem zn3 (d:Disk) (j:Jour) (p:Plan) (hp:DiskF d∧pfit p=true∧0≤j.seq∧j.seq<18446744073709551616):AC 291 [diskA d,jourA j,planA p] (.tup [diskA (jcommit d j p).1,jourA (jcommit d j p).2.1,.d (.int .i64 (jcommit d j p).2.2)]):=by
 obtain ⟨hd,hf,h0,h1⟩:=hp
 refine fbod Tryz.func291 Tryz.ntmps291 (fun base=>?_)
 obtain ⟨hl,h24,h64⟩:=zbH hf
 have hpo:PlanOk p:=⟨U,U⟩
 have hdo:=hd.ok
 have hdp:=hd.puts
 by_cases hn:p.targets.length=0
 ·have hb:((p.targets.length:Int)==0)=true:=by rw [hn];rfl
  refine' walkW hb (za zaU <| za zch <| za zci <| za zbn <| za zC <| za zcD <| zb _)
  rw [jcommit,if_pos hn]
 have hb:((p.targets.length:Int)==0)=false:=aI
 by_cases hs:4611686018427387904≤j.seq
 ·have hb2:decide (4611686018427387904≤j.seq)=true:=decide_eq_true hs
  refine' walkW (zj hb hb2) (za zaU <| za zch <| za zci <| za zbn <| za zC <| za zcD <| zb _)
  rw [jcommit,if_neg hn,if_pos hs]
 have hb2:decide (4611686018427387904≤j.seq)=false:=decide_eq_false hs
 by_cases he1:(dflush d).2≠0
 ·have hb3:((dflush d).2 !=0)=true:=by simpa using he1
  refine' walkW (zq hb hb2 hb3) (za zaU <| za zch <| za zci <| za zbn <| za zC <| za zcD <| zb _)
  rw [jcommit,if_neg hn,if_neg hs,if_pos he1]
 have hb3:((dflush d).2 !=0)=false:=by simpa using he1
 obtain ⟨htl,ht64⟩:=zjG j.seq hf
 have hd1:=hd.flush
 have hj:=zjF j.pos (zdu j.seq p).length
 have hjc:jcommit d j p=jtail (dflush d).1 j p (zdu j.seq p) (zeE j.pos (zdu j.seq p).length):=by rw [jcommit,if_neg hn,if_neg hs,if_neg he1]
 obtain ⟨L,hL⟩:∃L,L=zdu j.seq p:=⟨_,rfl⟩
 rw [← hL] at htl ht64 hj hjc
 obtain ⟨A,hA⟩:∃A,A=zeE j.pos L.length:=⟨_,rfl⟩
 rw [← hA] at hj hjc
 obtain ⟨D1,hD1⟩:∃D1,D1=(dflush d).1:=⟨_,rfl⟩
 rw [← hD1] at hd1 hjc
 refine' walkW (zq hb hb2 hb3) (za zaU <| za zch <| za zci <| za zbn <| za zC <| za zcD <| zb _)
 ·rw [← hL];omega
 rw [← hL,← hA,← hD1]
 refine zk (fun q: { q:Nat×Disk // q.1≤L.length∧DiskF q.2∧layL D1 (numF (6+A) L)=layL q.2 ((numF (6+A) L).drop q.1) } =>⟨[(3,true,.vp 0 0),(4,true,.vp 1 0),(5,true,.vp 2 0),(6,true,.vp 3 0),(7,true,.vp 4 0),(10,true,.d (.sl 1 (L.map strD))),(11,true,.d (.int .i64 A)),(12,true,.d (.int .i64 q.1.1))],[(4,.var [.d (.int .u64 0),.d (.int .i64 0)]),(3,.var [.d (.str []),.nils 2,.d (.int .i64 0),.d (.bool false),.nils 1]),(2,.var [.d (.sl 1 (p.targets.map intD)),.d (.sl 1 (p.texts.map strD))]),(1,.var [.d (.int .u64 j.seq),.d (.int .i64 j.pos)]),(0,(.var [.d (.str q.1.2.data),.d (.sl 2 (q.1.2.cache.map putD)),.d (.int .i64 q.1.2.fuse),.d (.bool q.1.2.off),.d (.sl 1 (q.1.2.bad.map intD))]))],some []⟩) (fun q=>L.length - q.1.1) ⟨(0,D1),Nat.zero_le _,hd1,rfl⟩ le1 (fun q=>?_)
 obtain ⟨⟨i,x⟩,hi,hx,hfx⟩:=q
 simp only at hi hx hfx ⊢
 have hxo:=hx.ok
 have hxp:=hx.puts
 rcases zy strD L i hi with ⟨s,hq,hlt,hcmp,hrow,hdr,htk⟩|⟨hend,hcmp⟩
 ·simp only [strD] at hrow
  have hwi:=zn (i:=i) U
  have hw1:IntKind.i64.wrap (6+A)=6+A:=zi U U
  have hw2:IntKind.i64.wrap (6+A+(i:Int))=6+A+i:=zi U U
  rw [zeg (ztk L (6+A) i s hq),layL] at hfx
  have hxw:=hx.write (6+A+i) s
  refine' walkW (zaB hcmp hrow hw1 hw2 natC) (za zaU <| za zch <| za zci <| za zbn <| za zC <| za zcD <| zb _)
  ·have hc:(zaT x (6+A+i) s).2≠0:=by simpa using hc
   rw [if_pos hc] at hfx
   rw [hjc,jtail,hfx,if_pos hc]
  ·have hc:¬(zaT x (6+A+i) s).2≠0:=by simpa using hc
   rw [if_neg hc] at hfx
   exact ⟨⟨(i+1,(zaT x (6+A+i) s).1),U,hxw,hfx⟩,lew,af⟩
 ·subst hend
  have hlay:layL D1 (numF (6+A) L)=(x,0):=by
   rw [hfx,List.drop_of_length_le (by rw [zpI];omega)];rfl
  have hxf:=hx.flush
  have hxfo:=hxf.ok
  have hws:j.seq<4611686018427387904→IntKind.u64.wrap (j.seq+1)=j.seq+1:=fun h=>zA U U
  have hws:=hws U
  have hwl:IntKind.i64.wrap (A+(L.length:Int))=A+L.length:=zi U U
  rw [jtail,hlay] at hjc
  simp only [if_neg (show ¬(0:Int)≠0 by decide)] at hjc
  refine' walkW (zq hcmp hws hwl) (za zaU <| za zch <| za zci <| za zbn <| za zC <| za zcD <| zb _)
  ·have hc:(dflush x).2≠0:=by simpa using hc
   rw [hjc,if_pos hc]
  ·rename_i hc0
   have hc0:¬(dflush x).2≠0:=by simpa using hc0
   have hc:(play (dflush x).1 p).2≠0:=ak
   rw [hjc,if_neg hc0,if_pos hc]
  ·rename_i hc0
   have hc0:¬(dflush x).2≠0:=by simpa using hc0
   have hc:¬(play (dflush x).1 p).2≠0:=ak
   rw [hjc,if_neg hc0,if_neg hc]
@[go_sem] noncomputable def zkQ:Ent Tryz.prog 291:= .m3 zV zn2 zaY zn3
open Go Go.Proofs
structure Geom where
 guest:Int
 host:Int
 deriving DecidableEq
def geomA (g:Geom):AV:= .agg [.d (.int .i64 g.guest),.d (.int .i64 g.host)]
attribute [go_sem] geomA
theorem zvR (g:Geom):Geom.mk g.guest g.host=g:=rfl
noncomputable def zfU:PT Geom:=aggT (consL (intT .i64) (consL (intT .i64) nilL)) (fun p=>⟨p.1,p.2.1⟩) (fun x=>(x.guest,x.host,())) (fun _=>rfl)
attribute [go_sem] zfU
attribute [go_sem] zvR
structure DP (d:Disk) (p:Plan):Prop where
 d:DiskF d
 p:pfit p=true
def p0:Plan:=⟨[],[]⟩
theorem zdw:pfit p0=true:=rfl
theorem DP.zero {d:Disk} {p:Plan} (h:DP d p):DP d p0:=⟨h.d,zdw⟩
theorem DP.dok {d:Disk} {p:Plan} (h:DP d p):DiskOk d:=h.d.ok
theorem DP.puts {d:Disk} {p:Plan} (h:DP d p):d.cache.all (putOk d)=true:=h.d.puts
theorem DP.pok {d:Disk} {p:Plan} (h:DP d p):PlanOk p:=by
 obtain ⟨hl,h24,_⟩:=zbH h.p
 exact ⟨U,U⟩
theorem DP.plen {d:Disk} {p:Plan} (h:DP d p):p.targets.length=p.texts.length:=(zbH h.p).1
theorem zkR {d:Disk} {at_:Int} (hf:d.cache.all (putOk d)=true) (he:(dread d at_).2=0):(dread d at_).1.length=64:=by
 unfold dread at he ⊢
 repeat' split
 all_goals first|(simp_all;done)|skip
 exact zpF hf (by simp_all)
theorem zkS {d:Disk} {p:Plan} {at_:Int} (h:DP d p) (he:(plook d p at_).2=0):(plook d p at_).1.length=64:=by
 unfold plook at he ⊢
 rcases zei p.targets at_ with hk|⟨k,hk,hkl⟩
 ·rw [if_neg U] at he ⊢
  exact zkR h.puts he
 ·rw [if_pos U,hk,Int.toNat_natCast]
  obtain ⟨s,hq⟩:=zaH (l:=p.texts) (i:=k) (by have:=h.plen;omega)
  rw [List.getD_eq_getElem?_getD,hq]
  exact (zbH h.p).2.2 s (List.mem_of_getElem? hq)
def zaA (k:Int):Bool:=decide (0≤k)&&decide (k<256)
def rget (d:Disk) (p:Plan) (k:Int):Int×Int:=
 if !zaA k then (0,10) else if (plook d p (87+k / 32)).2≠0 then (0,(plook d p (87+k / 32)).2)
 else (((takeN (((plook d p (87+k / 32)).1.drop (2*(k % 32)).toNat).take 2):Nat):Int),0)
def radd (d:Disk) (p:Plan) (k by_:Int):Plan×Int:=
 if (rget d p k).2≠0 then (p,(rget d p k).2) else if by_< -(rget d p k).1∨65535 - (rget d p k).1<by_ then (p,18)
 else zil d p (87+k / 32) (2*(k % 32)) (putN ((rget d p k).1+by_).toNat 2)
def zgj (d:Disk) (p:Plan):Nat→Int→Int×Int
 |0,_=>(0,17)
 |m+1,k=>if (rget d p k).2≠0 then (0,(rget d p k).2) else if (rget d p0 k).2≠0 then (0,(rget d p0 k).2)
  else if (rget d p k).1=0∧(rget d p0 k).1=0 then (k,0) else zgj d p m (k+1)
def rfind (d:Disk) (p:Plan) (g:Geom):Int×Int:=zgj d p g.host.toNat 0
def rtake (d:Disk) (p:Plan) (g:Geom):Plan×Int×Int:=
 if (rfind d p g).2≠0 then (p,0,(rfind d p g).2) else if (radd d p (rfind d p g).1 1).2≠0 then (p,0,(radd d p (rfind d p g).1 1).2)
 else ((radd d p (rfind d p g).1 1).1,(rfind d p g).1,0)
theorem zpJ (d:Disk) (p:Plan) (k:Int):0≤(rget d p k).1∧(rget d p k).1≤65535:=by
 unfold rget
 split
 ·exact ⟨Int.le_refl 0,show (0:Int)≤65535 by decide⟩
 split
 ·exact ⟨Int.le_refl 0,show (0:Int)≤65535 by decide⟩
 ·have:=zdf (l:=((plook d p (87+k / 32)).1.drop (2*(k % 32)).toNat).take 2) (i:=2) ax
  simp only
  omega
theorem zpK {d:Disk} {p:Plan} {k by_:Int} (h:pfit p=true):pfit (radd d p k by_).1=true:=by
 unfold radd
 split
 ·exact h
 split
 ·exact h
 ·exact zjC h
theorem DP.radd {d:Disk} {p:Plan} (h:DP d p) (k by_:Int):DP d (radd d p k by_).1:=⟨h.d,zpK h.p⟩
theorem DP.rtake {d:Disk} {p:Plan} (h:DP d p) (g:Geom):DP d (rtake d p g).1:=by
 unfold Aw.rtake
 split
 ·exact h
 split
 ·exact h
 ·exact h.radd _ _
theorem hostOk_iff {k:Int} :zaA k=true↔0≤k∧k<256:=by simp [zaA]
theorem zg1 (k:Int):(decide (k<0)||decide (256≤k))= !zaA k:=by
 rw [zaA,Bool.not_and]
 congr 1
 ·by_cases h:k<0
  ·rw [decide_eq_true h,decide_eq_false U];rfl
  ·rw [decide_eq_false h,decide_eq_true U];rfl
 ·by_cases h:k<256
  ·rw [decide_eq_true h,decide_eq_false U];rfl
  ·rw [decide_eq_false h,decide_eq_true U];rfl
theorem zin {s:Txt} {z:Int} (n:Nat) (hz:z=n) (h0:0<n) (h8:n≤8) (h:n≤s.length):takeS s z=(((takeN (s.take n):Nat):Int),s.drop n,0):=by
 subst hz
 rw [takeS,if_neg U,if_neg U]
 simp
theorem zvS (d:Disk) (p:Plan) (k:Int) (h:DP d p):AC 161 [diskA d,planA p,.d (.int .i64 k)] (.tup [.d (.int .i64 (rget d p k).1),.d (.int .i64 (rget d p k).2)]):=by
 refine bod Tryz.func161 Tryz.ntmps161 (fun base=>?_)
 have h1:=h.dok
 have h2:=h.pok
 have h3:=h.plen
 by_cases hk:zaA k=true
 ·have hdec:(!zaA k)=false:=by rw [hk];rfl
  obtain ⟨hk0,hk1⟩:=hostOk_iff.1 hk
  by_cases he:(plook d p (87+k / 32)).2=0
  ·have hb:((plook d p (87+k / 32)).2 !=0)=false:=by simpa using he
   have h64:=zkS h he
   have hts:=zin (s:=((plook d p (87+k / 32)).1.drop (2*(k % 32)).toNat)) (z:=2) 2 rfl U U ar
   have hr:=zpJ d p k
   have hrg:rget d p k=(((takeN (((plook d p (87+k / 32)).1.drop (2*(k % 32)).toNat).take 2):Nat):Int),0):=by
    rw [rget,if_neg (by rw [hdec];exact Bool.false_ne_true),if_neg aj]
   have hwr:IntKind.i64.wrap (rget d p k).1=(rget d p k).1:=zi U U
   rw [hrg] at hwr
   simp only at hwr
   have hld:((plook d p (87+k / 32)).1.drop (2*(k % 32)).toNat).length≤64:=ar
   have htk:List.take (plook d p (87+k / 32)).1.length (plook d p (87+k / 32)).1=(plook d p (87+k / 32)).1:=List.take_length
   refine' walkW (zo @zg1 hdec hb hts hwr htk) (za zdg <| za zQ <| za zp <| zb _)
   rw [hrg]
  ·have hb:((plook d p (87+k / 32)).2 !=0)=true:=by simpa using he
   refine' walkW (zq @zg1 hdec hb) (za zdg <| za zQ <| za zp <| zb _)
   rw [rget,if_neg (by rw [hdec];exact Bool.false_ne_true),if_pos he]
 ·have hdec:(!zaA k)=true:=by simpa using hk
  refine' walkW (zj @zg1 hdec) (za zdg <| za zQ <| za zp <| zb _)
  rw [rget,if_pos hdec]
@[go_sem] noncomputable def zae:Ent Tryz.prog 161:= .m3 zV zaY (intT .i64) zvS
theorem zjH {x:Int} :putS8 x 2=putN x.toNat 2:=bh
theorem zeR {x:Int} :putS8 x 4=putN x.toNat 4:=bh
theorem zeS {x:Int} :putS8 x 8=putN x.toNat 8:=bh
theorem ztl {d:Disk} {p:Plan} {k:Int} (h:(rget d p k).2=0):0≤k∧k<256:=by
 unfold rget at h
 by_cases hk:zaA k=true
 ·exact hostOk_iff.1 hk
 ·rw [if_pos bJ] at h
  cases h
theorem zvT (d:Disk) (p:Plan) (k by_:Int) (h:DP d p):AC 89 [diskA d,planA p,.d (.int .i64 k),.d (.int .i64 by_)] (.tup [planA (radd d p k by_).1,.d (.int .i64 (radd d p k by_).2)]):=by
 refine fbod Tryz.func89 Tryz.ntmps89 (fun base=>?_)
 have h1:=h.dok
 have h2:=h.puts
 have h3:=h.p
 have hr:=zpJ d p k
 by_cases he:(rget d p k).2=0
 ·have hb:((rget d p k).2 !=0)=false:=by simpa using he
  obtain ⟨hk0,hk1⟩:=ztl he
  have hw1:IntKind.i64.wrap (0 - (rget d p k).1)= -(rget d p k).1:=aE
  have hw2:IntKind.i64.wrap (65535 - (rget d p k).1)=65535 - (rget d p k).1:=zi U U
  by_cases hc:by_< -(rget d p k).1∨65535 - (rget d p k).1<by_
  ·have hdec:(decide (by_< -(rget d p k).1)||decide (65535 - (rget d p k).1<by_))=true:=by simpa using hc
   refine' walkW (zE hb hw1 hw2 hdec) (za zae <| za zdg <| za zt <| za za9 <| zb _)
   rw [radd,if_neg aj,if_pos hc]
  ·have hdec:(decide (by_< -(rget d p k).1)||decide (65535 - (rget d p k).1<by_))=false:=by simpa using hc
   have hw3:IntKind.i64.wrap ((rget d p k).1+by_)=(rget d p k).1+by_:=zi U U
   have hw4:IntKind.u64.wrap ((rget d p k).1+by_)=(rget d p k).1+by_:=zA U U
   have hpl:=zu ((rget d p k).1+by_).toNat 2
   refine' walkW (zo hb hw1 hw2 hw3 hw4 (zj hdec @zjH)) (za zae <| za zdg <| za zt <| za za9 <| zb _)
   all_goals first|(rw [hpl];decide)|skip
   rw [radd,if_neg aj,if_neg hc]
 ·have hb:((rget d p k).2 !=0)=true:=by simpa using he
  refine' walkW hb (za zae <| za zdg <| za zt <| za za9 <| zb _)
  rw [radd,if_pos he]
@[go_sem] noncomputable def zbS:Ent Tryz.prog 89:= .m4 zV zaY (intT .i64) (intT .i64) zvT
theorem zjI:∀ (d:Disk) (p:Plan) (m:Nat) (k:Int),(zgj d p m k).2=0→(0≤(zgj d p m k).1∧(zgj d p m k).1<256)
 |d,p,0,k,h=>by simp [zgj] at h
 | d,p,m+1,k,h=>by
  rw [zgj] at h ⊢
  split at h
  ·rename_i hc;exact absurd h hc
  rename_i hc0
  rw [if_neg hc0]
  split at h
  ·rename_i hc;exact absurd h hc
  rename_i hc1
  rw [if_neg hc1]
  split at h
  ·rename_i hc
   rw [if_pos hc]
   exact ztl (by simpa using hc0)
  ·rename_i hc
   rw [if_neg hc]
   exact zjI d p m (k+1) h
theorem ztm (d:Disk) (p:Plan) (g:Geom) (hp:DP d p∧g.host≤1000000):AC 339 [diskA d,planA p,geomA g] (.tup [.d (.int .i64 (rfind d p g).1),.d (.int .i64 (rfind d p g).2)]):=by
 obtain ⟨h,hg⟩:=hp
 refine fbod Tryz.func339 Tryz.ntmps339 (fun base=>?_)
 have hz:=h.zero
 have hz0:p0=Plan.mk [] []:=rfl
 rw [hz0] at hz
 refine' walkW fx (za zae <| za zbS <| zb _)
 refine zk (fun q: { i:Nat // (i:Int)≤max g.host 0∧rfind d p g=zgj d p (g.host.toNat - i) i } =>⟨[(3,true,.vp 0 0),(4,true,.vp 1 0),(5,true,.vp 2 0),(8,true,.d (.int .i64 q.1))],[(2,.var [.d (.int .i64 g.guest),.d (.int .i64 g.host)]),(1,.var [.d (.sl 1 (p.targets.map intD)),.d (.sl 1 (p.texts.map strD))]),(0,(.var [.d (.str d.data),.d (.sl 2 (d.cache.map putD)),.d (.int .i64 d.fuse),.d (.bool d.off),.d (.sl 1 (d.bad.map intD))]))],some []⟩) (fun q=>g.host.toNat - q.1) ⟨0,U,rfl⟩ le1 (fun q=>?_)
 obtain ⟨i,hi,hf⟩:=q
 simp only at hi hf ⊢
 by_cases hlt:(i:Int)<g.host
 ·have hcmp:decide ((i:Int)<g.host)=true:=decide_eq_true hlt
  have hwi:=zn (i:=i) U
  rw [show g.host.toNat - i=(g.host.toNat - (i+1))+1 by omega,zgj,hz0] at hf
  refine' walkW hcmp (za zae <| za zbS <| zb _)
  all_goals first|(simp_all;done)|skip
  rename_i c0 c1
  have c0:¬(rget d p i).2≠0:=by simpa using c0
  have c1:¬(rget d ⟨[],[]⟩ i).2≠0:=by simpa using c1
  have c2:¬((rget d p i).1=0∧(rget d ⟨[],[]⟩ i).1=0):=ak
  rw [if_neg c0,if_neg c1,if_neg c2] at hf
  exact ⟨⟨i+1,U,hf⟩,lew,af⟩
 ·have hcmp:decide ((i:Int)<g.host)=false:=decide_eq_false hlt
  refine' walkW hcmp (za zae <| za zbS <| zb _)
  rw [hf,show g.host.toNat - i=0 by omega]
  rfl
@[go_sem] noncomputable def zn4:Ent Tryz.prog 339:= .m3 zV zaY zfU ztm
theorem ztn (d:Disk) (p:Plan) (g:Geom) (hp:DP d p∧g.host≤1000000):AC 270 [diskA d,planA p,geomA g] (.tup [planA (rtake d p g).1,.d (.int .i64 (rtake d p g).2.1),.d (.int .i64 (rtake d p g).2.2)]):=by
 obtain ⟨h,hg⟩:=hp
 refine fbod Tryz.func270 Tryz.ntmps270 (fun base=>?_)
 refine' walkW fx (za zn4 <| za zbS <| zb _)
 all_goals simp_all [rtake]
@[go_sem] noncomputable def zay:Ent Tryz.prog 270:= .m3 zV zaY zfU ztn
open Go Go.Proofs
structure Dmap where
 name:Txt
 inuse:Bool
 bits:List Bool
 deriving DecidableEq
def dmapD (m:Dmap):List D:= .str m.name:: .bool m.inuse::m.bits.map .bool
theorem ziq:∀ {a b:List Bool},a.map D.bool=b.map D.bool→a=b
 | [],[],_=>rfl
 | [],_::_,h=>aY
 |_::_,[],h=>aY
 |x::a,y::b,h=>by
  simp only [List.map_cons,List.cons.injEq,D.bool.injEq] at h
  rw [h.1,ziq h.2]
theorem zeT:∀a b,dmapD a=dmapD b→a=b:=by
 rintro ⟨n,u,b⟩ ⟨n',u',b'⟩ h
 simp only [dmapD,List.cons.injEq,D.str.injEq,D.bool.injEq] at h
 rw [h.1,h.2.1,ziq h.2.2]
structure Img where
 disk:Disk
 geom:Geom
 jour:Jour
 maps:List Dmap
 broken:Bool
 deriving DecidableEq
def imgA (x:Img):AV:= .agg [.d (.str x.disk.data),.d (.sl 2 (x.disk.cache.map putD)),.d (.int .i64 x.disk.fuse),.d (.bool x.disk.off),.d (.sl 1 (x.disk.bad.map intD)),.d (.int .i64 x.geom.guest),.d (.int .i64 x.geom.host),.d (.int .u64 x.jour.seq),.d (.int .i64 x.jour.pos),.d (.sl 66 (x.maps.map dmapD)),.d (.bool x.broken)]
attribute [go_sem] imgA
theorem zxO (x:Img):Img.mk x.disk x.geom x.jour x.maps x.broken=x:=rfl
noncomputable def zbk:PT Img:=aggT (consL strT (consL (slT 2 putD zkK) (consL (intT .i64) (consL boolT (consL (slT 1 intD zf8) (consL (intT .i64) (consL (intT .i64) (consL (intT .u64) (consL (intT .i64) (consL (slT 66 dmapD zeT) (consL boolT nilL))))))))))) (fun p=>⟨⟨p.1,p.2.1,p.2.2.1,p.2.2.2.1,p.2.2.2.2.1⟩,⟨p.2.2.2.2.2.1,p.2.2.2.2.2.2.1⟩,⟨p.2.2.2.2.2.2.2.1,p.2.2.2.2.2.2.2.2.1⟩,p.2.2.2.2.2.2.2.2.2.1,p.2.2.2.2.2.2.2.2.2.2.1⟩) (fun x=>(x.disk.data,x.disk.cache,x.disk.fuse,x.disk.off,x.disk.bad,x.geom.guest,x.geom.host,x.jour.seq,x.jour.pos,x.maps,x.broken,())) (fun _=>rfl)
attribute [go_sem] zbk
attribute [go_sem] zxO
structure ImgOk (x:Img):Prop where
 disk:DiskOk x.disk
 maps:x.maps.length≤9223372036854775807
 names:∀m∈x.maps,m.name.length≤9223372036854775807
 bits:∀m∈x.maps,m.bits.length=64
def mfit (n0:Txt):Nat→List Dmap→Bool
 |_,[]=>true
 |i,m::r=>zht m.name&&m.inuse&& !(decide (0<i)&&(n0==m.name))&&mfit n0 (i+1) r
def ifit (x:Img):Bool:=
 zdM x.geom.guest x.geom.host&&dfit x.disk&&((dsize x.disk:Int)==zhu x.geom.guest x.geom.host)&&jfit x.jour&&decide (x.maps.length≤2)&&mfit (x.maps.head?.map (·.name) |>.getD []) 0 x.maps
theorem zty (x:Img) (h:ImgOk x):AC 38 [imgA x] (.d (.bool (ifit x))):=by
 refine fbod Tryz.func38 Tryz.ntmps38 (fun base=>?_)
 have h1:=h.disk
 have h2:=h.maps
 by_cases hc0:(!zdM x.geom.guest x.geom.host|| !dfit x.disk||((dsize x.disk:Int) !=zhu x.geom.guest x.geom.host)|| !jfit x.jour||decide (2<(x.maps.length:Int)))=true
 ·refine' walkW hc0 (za zcC <| za zfm <| za zbd <| za zd1 <| za zfp <| za zdL <| zb _)
  have:ifit x=false:=by
   simp only [Bool.or_eq_true,Bool.not_eq_true',bne_iff_ne,decide_eq_true_eq] at hc0
   unfold ifit
   rcases hc0 with (((hh|hh)|hh)|hh)|hh
   ·rw [hh];simp
   ·rw [hh];simp
   ·rw [beq_eq_false_iff_ne.2 hh];simp
   ·rw [hh];simp
   ·rw [decide_eq_false (p:=x.maps.length≤2) U];simp
  rw [this]
 have hc0:(!zdM x.geom.guest x.geom.host|| !dfit x.disk||((dsize x.disk:Int) !=zhu x.geom.guest x.geom.host)|| !jfit x.jour||decide (2<(x.maps.length:Int)))=false:=by simpa using hc0
 have hfit:ifit x=mfit (x.maps.head?.map (·.name) |>.getD []) 0 x.maps:=by
  simp only [Bool.or_eq_false_iff,Bool.not_eq_false',bne_eq_false_iff_eq,decide_eq_false_iff_not] at hc0
  rw [ifit,hc0.1.1.1.1,hc0.1.1.1.2,hc0.1.2,beq_iff_eq.2 hc0.1.1.2,decide_eq_true (p:=x.maps.length≤2) U]
  rfl
 refine' walkW hc0 (za zcC <| za zfm <| za zbd <| za zd1 <| za zfp <| za zdL <| zb _)
 obtain ⟨N0,hN0⟩:∃N0,N0=(x.maps.head?.map (·.name) |>.getD []):=⟨_,rfl⟩
 rw [← hN0] at hfit
 refine zk (fun q: { i:Nat // i≤x.maps.length∧ifit x=mfit N0 i (x.maps.drop i) } =>⟨[(1,true,.vp 0 0),(3,true,.d (.int .i64 q.1))],[(0,.var [.d (.str x.disk.data),.d (.sl 2 (x.disk.cache.map putD)),.d (.int .i64 x.disk.fuse),.d (.bool x.disk.off),.d (.sl 1 (x.disk.bad.map intD)),.d (.int .i64 x.geom.guest),.d (.int .i64 x.geom.host),.d (.int .u64 x.jour.seq),.d (.int .i64 x.jour.pos),.d (.sl 66 (x.maps.map dmapD)),.d (.bool x.broken)])],some []⟩) (fun q=>x.maps.length - q.1) ⟨0,Nat.zero_le _,hfit⟩ le1 (fun q=>?_)
 obtain ⟨i,hi,hf⟩:=q
 simp only at hi hf ⊢
 rcases zy dmapD x.maps i hi with ⟨m,hq,hlt,hcmp,hrow,hdr,htk⟩|⟨hend,hcmp⟩
 ·obtain ⟨m0,hq0⟩:=zaH (l:=x.maps) (i:=0) U
  have hrow0:=zbJ (g:=dmapD) hq0
  simp only [dmapD] at hrow hrow0
  have hpos:decide ((0:Int)<(x.maps.length:Int))=true:=decide_eq_true U
  have hwi:=zn (i:=i) U
  have hnl:=h.names m (List.mem_of_getElem? hq)
  have hN:N0=m0.name:=by rw [hN0,List.head?_eq_getElem?,hq0];rfl
  rw [hdr,mfit,hN] at hf
  have hall:(!zht m.name|| !m.inuse||(decide ((0:Int)<(i:Int))&&(m0.name==m.name)))= !(zht m.name&&m.inuse&& !(decide (0<i)&&(m0.name==m.name))):=by
   rw [Bool.not_and,Bool.not_and,Bool.not_not,show decide ((0:Int)<(i:Int))=decide (0<i) from zyG]
  refine' walkW (zaB hcmp hrow hrow0 hpos natC) (za zcC <| za zfm <| za zbd <| za zd1 <| za zfp <| za zdL <| zb _)
  ·rename_i hg0
   rw [hg0,hc];rfl
  ·rw [hall] at hc
   simp only [Bool.not_eq_true'] at hc
   rw [hf,hc,Bool.false_and]
  ·rw [hall] at hc
   simp only [Bool.not_eq_false'] at hc
   rw [hc,Bool.true_and,← hN] at hf
   exact ⟨⟨i+1,U,hf⟩,lew,af⟩
 ·refine' walkW hcmp (za zcC <| za zfm <| za zbd <| za zd1 <| za zfp <| za zdL <| zb _)
  rw [hf,hend,List.drop_length]
  rfl
@[go_sem] noncomputable def zir:Ent Tryz.prog 38:= .m1 zbk zty
theorem zvX {n:Nat} {a b:List Bool} (ha:a.length=n) (hb:b.length=n):((List.range n).all fun i=>a.getD i false==b.getD i false)=decide (a=b):=by
 rw [Bool.eq_iff_iff,List.all_eq_true,decide_eq_true_eq]
 constructor
 ·intro h
  apply List.ext_getElem U
  intro i h1 h2
  have:=h i af
  simpa [List.getD_eq_getElem?_getD,h1,h2] using this
 ·rintro rfl i _
  simp
theorem zjL {P:Program} {e:Nat} (he:(ty P e).td= .bool) {a b:List Bool} {n d:Nat} (ha:a.length=n) (hb:b.length=n):∀l:List Nat,(∀i∈l,i<n)→
  aeq.aeqF P (l.map fun i=>(i,e)) (a.map fun x=>AV.d (.bool x)) (b.map fun x=>AV.d (.bool x)) (fun f=>aeq P (d+1) f)=(True,l.all fun i=>a.getD i false==b.getD i false)
 | [],_=>rfl
 | i::l,h=>by
  have ih:=zjL he ha hb (d:=d) l (fun j hj=>h j (by simp [hj]))
  have hi:i<n:=h i aa
  have hx:∀ (c:List Bool),c.length=n→apart P e (c.map fun x=>AV.d (.bool x)) i= .d (.bool (c.getD i false)):=fun c hc=>by
   unfold apart
   rw [he]
   simp [TD.agg,List.getD_eq_getElem?_getD,hc,hi]
  simp only [List.map_cons,aeq.aeqF,ih,hx a ha,hx b hb]
  have h1:aeq P (d+1) e (.d (.bool (a.getD i false))) (.d (.bool (b.getD i false)))=(True,a.getD i false==b.getD i false):=by
   unfold aeq
   rw [he]
  rw [h1]
  have hp:psize P e=1:=by unfold psize;rw [he];rfl
  simp only [he,hp,List.length_map,ha,hb,List.all_cons,ne_eq,reduceCtorEq,not_false_eq_true,true_and,and_true]
  rw [eq_true (show i+1≤n∧i+1≤n from ⟨hi,hi⟩)]
theorem zvY {P:Program} {t e:Nat} (ht:(ty P t).td= .arr 64 e) (he:(ty P e).td= .bool) (hz:(ty P e).size=1) {a b:List Bool} {d:Nat} (ha:a.length=64) (hb:b.length=64):
  aeq P (d+2) t (.agg (a.map fun x=>AV.d (.bool x))) (.agg (b.map fun x=>AV.d (.bool x)))=(True,decide (a=b)):=by
 have:=zjL he ha hb (d:=d) (List.range 64) (fun i hi=>cd)
 unfold aeq
 simp only [ht,hz,Nat.mul_one]
 rw [this,zvX ha hb]
 simp only [he,ne_eq,reduceCtorEq,not_false_eq_true,and_true]
theorem zpM (l:List Bool):(l.map D.bool).map AV.d=l.map fun x=>AV.d (.bool x):=by rw [List.map_map];rfl
open Go Go.Proofs
theorem zvZ {P:Program} {t s b a e:Nat} (ht:(ty P t).td= .struct [(0,s),(1,b),(2,a)]) (hs:(ty P s).td= .str) (hb:(ty P b).td= .bool) (ha:(ty P a).td= .arr 64 e) (he:(ty P e).td= .bool) (hz:(ty P e).size=1) (hza:(ty P a).size=64) (hst:P.stoodInHeld t=false)
  {m m':Dmap} (hm:m.bits.length=64) (hm':m'.bits.length=64):
  aeq P 12 t (.agg (.d (.str m.name):: .d (.bool m.inuse)::(m.bits.map D.bool).map AV.d)) (.agg (.d (.str m'.name):: .d (.bool m'.inuse)::(m'.bits.map D.bool).map AV.d))=(True,decide (m=m')):=by
 have h1:=zvY (P:=P) (t:=a) ha he hz (d:=9) hm hm'
 have hl:∀c:List Bool,c.length=64→List.take 64 (c.map fun x=>AV.d (.bool x))=c.map fun x=>AV.d (.bool x):=fun c hc=>List.take_of_length_le (by simp [hc])
 rw [zpM,zpM]
 have p0:∀c:Dmap,apart P s (.d (.str c.name):: .d (.bool c.inuse)::(c.bits.map fun x=>AV.d (.bool x))) 0= .d (.str c.name):=fun c=>by unfold apart;rw [hs];rfl
 have p1:∀c:Dmap,apart P b (.d (.str c.name):: .d (.bool c.inuse)::(c.bits.map fun x=>AV.d (.bool x))) 1= .d (.bool c.inuse):=fun c=>by unfold apart;rw [hb];rfl
 have p2:∀c:Dmap,c.bits.length=64→apart P a (.d (.str c.name):: .d (.bool c.inuse)::(c.bits.map fun x=>AV.d (.bool x))) 2= .agg (c.bits.map fun x=>AV.d (.bool x)):=fun c hc=>by
  unfold apart
  rw [ha,hza]
  simp only [TD.agg,if_true,List.drop_succ_cons,List.drop_zero,hl c.bits hc]
 have q0:psize P s=1:=by unfold psize;rw [hs];rfl
 have q1:psize P b=1:=by unfold psize;rw [hb];rfl
 have q2:psize P a=64:=by unfold psize;rw [ha,hza];rfl
 have e0:aeq P 11 s (.d (.str m.name)) (.d (.str m'.name))=(True,m.name==m'.name):=by unfold aeq;rw [hs]
 have e1:aeq P 11 b (.d (.bool m.inuse)) (.d (.bool m'.inuse))=(True,m.inuse==m'.inuse):=by unfold aeq;rw [hb]
 unfold aeq
 simp only [ht,hst,aeq.aeqF,p0,p1,p2 m hm,p2 m' hm',q0,q1,q2,e0,e1,h1,hs,hb,ha,List.length_cons,List.length_map,hm,hm',ne_eq,reduceCtorEq,not_false_eq_true,true_and,and_true,Bool.and_true]
 refine Prod.ext aa ?_
 simp only
 rw [Bool.eq_iff_iff]
 simp only [Bool.and_eq_true,beq_iff_eq,decide_eq_true_eq]
 obtain ⟨n,u,l⟩:=m
 obtain ⟨n',u',l'⟩:=m'
 simp
theorem zmv (a b:List Dmap) (hp:a.length≤9223372036854775807∧b.length≤9223372036854775807∧(∀m∈a,m.bits.length=64)∧(∀m∈b,m.bits.length=64)):AC 49 [.d (.sl 66 (a.map dmapD)),.d (.sl 66 (b.map dmapD))] (.d (.bool (decide (a=b)))):=by
 obtain ⟨ha,hb,hla,hlb⟩:=hp
 refine fbod Tryz.func49 Tryz.ntmps49 (fun base=>?_)
 by_cases hl:a.length=b.length
 ·have hb0:((a.length:Int) !=(b.length:Int))=false:=by rw [hl];simp
  refine' zc hb0
  refine zk (fun q: { i:Nat // i≤a.length∧decide (a=b)=decide (a.drop i=b.drop i) } =>⟨[(0,true,.d (.sl 66 (a.map dmapD))),(1,true,.d (.sl 66 (b.map dmapD))),(5,true,.d (.int .i64 q.1))],[],some []⟩) (fun q=>a.length - q.1) ⟨0,Nat.zero_le _,rfl⟩ le1 (fun q=>?_)
  obtain ⟨i,hi,hf⟩:=q
  simp only at hi hf ⊢
  rcases zy dmapD a i hi with ⟨m,hq,hlt,hcmp,hrow,hdr,htk⟩|⟨hend,hcmp⟩
  ·obtain ⟨m',hq'⟩:=zaH (l:=b) (i:=i) U
   have hrow':=zbJ (g:=dmapD) hq'
   simp only [dmapD] at hrow hrow'
   have hcmp':decide ((i:Int)<(b.length:Int))=true:=by rw [← hl];exact hcmp
   have hwi:=zn (i:=i) U
   have hm:=hla m (List.mem_of_getElem? hq)
   have hm':=hlb m' (List.mem_of_getElem? hq')
   rw [hdr,zeg hq'] at hf
   have hae:=zvZ (P:=Tryz.prog) (t:=155) (s:=9) (b:=4) (a:=153) (e:=4) bn bn bn bn bn bn bn ad hm hm'
   have ht1:List.take 64 ((m.bits.map D.bool).map AV.d)=(m.bits.map D.bool).map AV.d:=List.take_of_length_le (by simp [hm])
   have ht2:List.take 64 ((m'.bits.map D.bool).map AV.d)=(m'.bits.map D.bool).map AV.d:=List.take_of_length_le (by simp [hm'])
   (have tk:=zb Tryz.prog);repeat' (first|((first|(refine sa ?_;intro K hK)|refine sb ?_);simp only [go_sem,simprocAttr,hcmp,hcmp',hrow,hrow',ht1,ht2,hae,hm,hm',Int.toNat_natCast,Tryz.results49])|refine zbm (fun K hK=>?_)|refine sc ?_|refine zb3 rfl (fun hc=>?_) (fun hc=>?_)|(refine hK _ ?_;clear hK K)|with_reducible refine And.intro ?_ ?_|(refine (show zb5 _ _=true from ?_);kernel_rfl)|omega|assumption|clear hK K)
   ·rw [hf]
    simp only [Bool.not_eq_true',decide_eq_false_iff_not] at hc
    rw [decide_eq_false]
    simp only [List.cons.injEq]
    exact fun h=>hc h.1
   ·simp only [Bool.not_eq_false',decide_eq_true_eq] at hc
    refine ⟨⟨i+1,U,?_⟩,lew,af⟩
    rw [hf,hc]
    simp
  ·refine' zc hcmp
   rw [hf,List.drop_of_length_le U,List.drop_of_length_le U]
   rfl
 ·have hb0:((a.length:Int) !=(b.length:Int))=true:=by rw [bne_iff_ne];omega
  refine' zc hb0
  rw [decide_eq_false (fun h=>hl (by rw [h]))]
@[go_sem] noncomputable def zi5:Ent Tryz.prog 49:= .m2 (slT 66 dmapD zeT) (slT 66 dmapD zeT) zmv
open Go Go.Proofs Go.RowKit Go.ChangeShapes Go.WideShapes
structure ImgW (x:Img):Prop where
 ok:ImgOk x
 seq0:0≤x.jour.seq
 seq1:x.jour.seq≤18446744073709551615
 guest0: -9223372036854775808≤x.geom.guest
 guest1:x.geom.guest≤9223372036854775807
 host0: -9223372036854775808≤x.geom.host
 host1:x.geom.host≤9223372036854775807
 pos0: -9223372036854775808≤x.jour.pos
 pos1:x.jour.pos≤9223372036854775807
def imgD (x:Img):List D:= [.str x.disk.data,.sl 2 (x.disk.cache.map putD),.int .i64 x.disk.fuse,.bool x.disk.off,.sl 1 (x.disk.bad.map intD),.int .i64 x.geom.guest,.int .i64 x.geom.host,.int .u64 x.jour.seq,.int .i64 x.jour.pos,.sl 66 (x.maps.map dmapD),.bool x.broken]
theorem zc2 {n:Nat} {x:List D} (h:DTy Tryz.prog (n+1) 3 x):∃a:Int,x= [.int .i64 a]∧ -9223372036854775808≤a∧a≤9223372036854775807:=by
 unfold DTy at h
 simp only [ty3] at h
 obtain ⟨a,rfl,h1,h2⟩:=h
 exact ⟨a,rfl,h1,h2⟩
theorem zkZ {n:Nat} {x:List D} (h:DTy Tryz.prog (n+1) 9 x):∃s:Txt,x= [.str s]∧s.length≤9223372036854775807:=by
 unfold DTy at h
 simp only [ty9] at h
 exact h.imp fun s hs=>⟨hs.1,Nat.le_trans hs.2 ae⟩
theorem zhO {n:Nat} {x:List D} (h:DTy Tryz.prog (n+1) 4 x):∃b:Bool,x= [.bool b]:=by
 unfold DTy at h
 simp only [ty4] at h
 exact h
theorem zv5 {n:Nat} {x:List D} (h:DTy Tryz.prog (n+2) 33 x):∃l:List Int,l.length≤9223372036854775807∧x= [.sl 1 (l.map intD)]:=by
 unfold DTy at h
 simp only [ty33] at h
 obtain ⟨rows,rfl,hl,hr⟩:=h
 obtain ⟨l,rfl⟩:=zf7 (e:=intD) (fun r h'=>(zc2 (hr r h')).imp fun s h=>h.1)
 exact ⟨l,aH,by rw [ty3]⟩
theorem zxS {n:Nat} {x:List D} (h:DTy Tryz.prog (n+2) 195 x):∃q:PutR,x=putD q:=by
 unfold DTy at h
 simp only [ty195,DTy.fields] at h
 obtain ⟨a1,b1,rfl,g1,a2,b2,rfl,g2,rfl⟩:=h
 obtain ⟨a,rfl,_⟩:=zc2 g1
 obtain ⟨s,rfl,_⟩:=zkZ g2
 exact ⟨(a,s),rfl⟩
theorem zv6 {n:Nat} {x:List D} (h:DTy Tryz.prog (n+3) 32 x):∃l:List PutR,l.length≤9223372036854775807∧x= [.sl 2 (l.map putD)]:=by
 unfold DTy at h
 simp only [ty32] at h
 obtain ⟨rows,rfl,hl,hr⟩:=h
 obtain ⟨l,rfl⟩:=zf7 (e:=putD) (fun r h'=>zxS (hr r h'))
 exact ⟨l,aH,by rw [ty195]⟩
theorem zv7 {n:Nat} {x:List D} (h:DTy Tryz.prog (n+4) 35 x):∃d:Disk,DiskOk d∧x= [.str d.data,.sl 2 (d.cache.map putD),.int .i64 d.fuse,.bool d.off,.sl 1 (d.bad.map intD)]:=by
 unfold DTy at h
 simp only [ty35,DTy.fields] at h
 obtain ⟨a1,b1,rfl,g1,a2,b2,rfl,g2,a3,b3,rfl,g3,a4,b4,rfl,g4,a5,b5,rfl,g5,rfl⟩:=h
 obtain ⟨s,rfl,q1⟩:=zkZ g1
 obtain ⟨l,q2,rfl⟩:=zv6 g2
 obtain ⟨f,rfl,q3,q4⟩:=zc2 g3
 obtain ⟨o,rfl⟩:=zhO g4
 obtain ⟨m,q5,rfl⟩:=zv5 g5
 exact ⟨⟨s,l,f,o,m⟩,⟨q1,q2,q5,q3,q4⟩,rfl⟩
theorem zjP:∀ {parts:List (List D)},(∀p∈parts,∃b:Bool,p= [.bool b])→∃l:List Bool,parts.flatten=l.map D.bool∧l.length=parts.length
 | [],_=>⟨[],rfl,rfl⟩
 |p::r,h=>by
  obtain ⟨b,rfl⟩:=h p aa
  obtain ⟨l,h1,h2⟩:=zjP (parts:=r) (fun q hq=>h q bx)
  exact ⟨b::l,bw,by simp [h2]⟩
theorem zpN {n:Nat} {x:List D} (h:DTy Tryz.prog (n+3) 155 x):∃m:Dmap,(m.name.length≤9223372036854775807∧m.bits.length=64)∧x=dmapD m:=by
 unfold DTy at h
 simp only [ty155,DTy.fields] at h
 obtain ⟨a1,b1,rfl,g1,a2,b2,rfl,g2,a3,b3,rfl,g3,rfl⟩:=h
 obtain ⟨s,rfl,q1⟩:=zkZ g1
 obtain ⟨u,rfl⟩:=zhO g2
 unfold DTy at g3
 simp only [ty153] at g3
 obtain ⟨parts,rfl,hl,hp⟩:=g3
 obtain ⟨l,h1,h2⟩:=zjP (fun p h'=>zhO (hp p h'))
 exact ⟨⟨s,u,l⟩,⟨q1,by rw [h2,hl]⟩,by simp [dmapD,h1]⟩
theorem ztD {n:Nat} {x:List D} (h:DTy Tryz.prog (n+4) 40 x):∃l:List Dmap,l.length≤9223372036854775807∧(∀m∈l,m.name.length≤9223372036854775807∧m.bits.length=64)∧x= [.sl 66 (l.map dmapD)]:=by
 unfold DTy at h
 simp only [ty40] at h
 obtain ⟨rows,rfl,hl,hr⟩:=h
 obtain ⟨l,rfl⟩:=zf7 (e:=dmapD) (fun r h'=>(zpN (hr r h')).imp fun s h=>h.2)
 refine ⟨l,aH,fun m hm=>?_,by rw [ty155]⟩
 obtain ⟨m',h1,h2⟩:=zpN (hr (dmapD m) (List.mem_map_of_mem hm))
 rw [zeT _ _ h2]
 exact h1
theorem zxT {n:Nat} {x:List D} (h:DTy Tryz.prog (n+5) 42 x):∃X:Img,ImgW X∧x=imgD X:=by
 unfold DTy at h
 simp only [ty42,DTy.fields] at h
 obtain ⟨a1,b1,rfl,g1,a2,b2,rfl,g2,a3,b3,rfl,g3,a4,b4,rfl,g4,a5,b5,rfl,g5,rfl⟩:=h
 obtain ⟨d,q1,rfl⟩:=zv7 g1
 unfold DTy at g2 g3
 simp only [ty37,DTy.fields] at g2
 simp only [ty39,DTy.fields] at g3
 obtain ⟨c1,e1,rfl,k1,c2,e2,rfl,k2,rfl⟩:=g2
 obtain ⟨c3,e3,rfl,k3,c4,e4,rfl,k4,rfl⟩:=g3
 obtain ⟨gu,rfl,r1,r2⟩:=zc2 k1
 obtain ⟨ho,rfl,r3,r4⟩:=zc2 k2
 unfold DTy at k3
 simp only [ty22] at k3
 obtain ⟨sq,rfl,r5,r6⟩:=k3
 obtain ⟨po,rfl,r7,r8⟩:=zc2 k4
 obtain ⟨l,q2,q3,rfl⟩:=ztD g4
 obtain ⟨br,rfl⟩:=zhO g5
 exact ⟨⟨d,⟨gu,ho⟩,⟨sq,po⟩,l,br⟩,⟨⟨q1,q2,fun m hm=>(q3 m hm).1,fun m hm=>(q3 m hm).2⟩,r5,r6,r1,r2,r3,r4,r7,r8⟩,rfl⟩
theorem zxU (X:Img):argAV Tryz.prog 42 (imgD X)=imgA X:=by simp only [argAV,ty42];rfl
theorem zxV (n:Int):argAV Tryz.prog 3 [.int .i64 n]= .d (.int .i64 n):=by simp only [argAV,ty3]
theorem zxW (s:Txt):argAV Tryz.prog 9 [.str s]= .d (.str s):=by simp only [argAV,ty9]
end Go.Aw
