/-
  Parts of the proof: RefcA, RefcB, RootA, RootB (short names; the readable texts lie in the repo, under wip).
-/
import Derived.Test.YtbmlikkofegdeaaGreatPart24
import Derived.Test.YtbmlikkofegdeaaGreatPart17
import Derived.Test.YtbmlikkofegdeaaGreatPart22
set_option maxRecDepth 100000
set_option maxHeartbeats 2000000
set_option linter.unusedSimpArgs false
set_option linter.unusedVariables false
namespace Go.Aw
open Go Go.Proofs
structure Geom where
 guest:Int
 host:Int
 deriving DecidableEq
def geomA (g:Geom):AV:= .agg [.d (.int .i64 g.guest),.d (.int .i64 g.host)]
attribute [go_sem] geomA
theorem zqa (g:Geom):Geom.mk g.guest g.host=g:=rfl
noncomputable def zgD:PT Geom:=aggT (consL (intT .i64) (consL (intT .i64) nilL)) (fun p=>⟨p.1,p.2.1⟩) (fun x=>(x.guest,x.host,())) (fun _=>rfl)
attribute [go_sem] zgD
attribute [go_sem] zqa
structure DP (d:Disk) (p:Plan):Prop where
 d:DiskF d
 p:pfit p=true
def p0:Plan:=⟨[],[]⟩
theorem zcZ:pfit p0=true:=rfl
theorem DP.zero {d:Disk} {p:Plan} (h:DP d p):DP d p0:=⟨h.d,zcZ⟩
theorem DP.dok {d:Disk} {p:Plan} (h:DP d p):DiskOk d:=h.d.ok
theorem DP.puts {d:Disk} {p:Plan} (h:DP d p):d.cache.all (putOk d)=true:=h.d.puts
theorem DP.pok {d:Disk} {p:Plan} (h:DP d p):PlanOk p:=by
 obtain ⟨hl,h24,_⟩:=zau h.p
 exact ⟨by omega,by omega⟩
theorem DP.plen {d:Disk} {p:Plan} (h:DP d p):p.targets.length=p.texts.length:=(zau h.p).1
theorem zeK {d:Disk} {at_:Int} (hf:d.cache.all (putOk d)=true) (he:(dread d at_).2=0):(dread d at_).1.length=64:=by
 unfold dread at he ⊢
 repeat' split
 all_goals first|(simp_all;done)|skip
 exact zlz hf (by simp_all)
theorem zb8 {d:Disk} {p:Plan} {at_:Int} (h:DP d p) (he:(plook d p at_).2=0):(plook d p at_).1.length=64:=by
 unfold plook at he ⊢
 rcases zap p.targets at_ with hk|⟨k,hk,hkl⟩
 ·rw [if_neg (by omega)] at he ⊢
  exact zeK h.puts he
 ·rw [if_pos (by omega),hk,Int.toNat_natCast]
  obtain ⟨s,hq⟩:=zaP (l:=p.texts) (i:=k) (by have:=h.plen;omega)
  rw [List.getD_eq_getElem?_getD,hq]
  exact (zau h.p).2.2 s (List.mem_of_getElem? hq)
def zF (k:Int):Bool:=decide (0≤k)&&decide (k<256)
def rget (d:Disk) (p:Plan) (k:Int):Int×Int:=
 if !zF k then (0,10) else if (plook d p (87+k / 32)).2≠0 then (0,(plook d p (87+k / 32)).2)
 else (((takeN (((plook d p (87+k / 32)).1.drop (2*(k % 32)).toNat).take 2):Nat):Int),0)
def radd (d:Disk) (p:Plan) (k by_:Int):Plan×Int:=
 if (rget d p k).2≠0 then (p,(rget d p k).2) else if by_< -(rget d p k).1∨65535 - (rget d p k).1<by_ then (p,18)
 else zbT d p (87+k / 32) (2*(k % 32)) (putN ((rget d p k).1+by_).toNat 2)
def rallK (d:Disk) (p:Plan):Nat→Int→List Int→List Int×Int
 |0,_,l=>(l,0)
 |m+1,k,l=>if (rget d p k).2≠0 then ([],(rget d p k).2) else rallK d p m (k+1) (l++ [(rget d p k).1])
def rall (d:Disk) (p:Plan) (n:Int):List Int×Int:=if n<0∨256<n then ([],10) else rallK d p n.toNat 0 []
def zc0 (d:Disk) (p:Plan):Nat→Int→Int×Int
 |0,_=>(0,17)
 |m+1,k=>if (rget d p k).2≠0 then (0,(rget d p k).2) else if (rget d p0 k).2≠0 then (0,(rget d p0 k).2)
  else if (rget d p k).1=0∧(rget d p0 k).1=0 then (k,0) else zc0 d p m (k+1)
def rfind (d:Disk) (p:Plan) (g:Geom):Int×Int:=zc0 d p g.host.toNat 0
def rtake (d:Disk) (p:Plan) (g:Geom):Plan×Int×Int:=
 if (rfind d p g).2≠0 then (p,0,(rfind d p g).2) else if (radd d p (rfind d p g).1 1).2≠0 then (p,0,(radd d p (rfind d p g).1 1).2)
 else ((radd d p (rfind d p g).1 1).1,(rfind d p g).1,0)
theorem zdo (d:Disk) (p:Plan) (k:Int):0≤(rget d p k).1∧(rget d p k).1≤65535:=by
 unfold rget
 split
 ·exact ⟨Int.le_refl 0,show (0:Int)≤65535 by decide⟩
 split
 ·exact ⟨Int.le_refl 0,show (0:Int)≤65535 by decide⟩
 ·have:=zcE (l:=((plook d p (87+k / 32)).1.drop (2*(k % 32)).toNat).take 2) (i:=2) (by rw [List.length_take];omega)
  simp only
  omega
theorem zlI {d:Disk} {p:Plan} {k by_:Int} (h:pfit p=true):pfit (radd d p k by_).1=true:=by
 unfold radd
 split
 ·exact h
 split
 ·exact h
 ·exact zhH h
theorem DP.radd {d:Disk} {p:Plan} (h:DP d p) (k by_:Int):DP d (radd d p k by_).1:=⟨h.d,zlI h.p⟩
theorem DP.rtake {d:Disk} {p:Plan} (h:DP d p) (g:Geom):DP d (rtake d p g).1:=by
 unfold Aw.rtake
 split
 ·exact h
 split
 ·exact h
 ·exact h.radd _ _
theorem hostOk_iff {k:Int} :zF k=true↔0≤k∧k<256:=by simp [zF]
theorem zbl (k:Int):(decide (k<0)||decide (256≤k))= !zF k:=by
 rw [zF,Bool.not_and]
 congr 1
 ·by_cases h:k<0
  ·rw [decide_eq_true h,decide_eq_false (by omega)];rfl
  ·rw [decide_eq_false h,decide_eq_true (by omega)];rfl
 ·by_cases h:k<256
  ·rw [decide_eq_true h,decide_eq_false (by omega)];rfl
  ·rw [decide_eq_false h,decide_eq_true (by omega)];rfl
theorem zdO {s:Txt} {z:Int} (n:Nat) (hz:z=n) (h0:0<n) (h8:n≤8) (h:n≤s.length):takeS s z=(((takeN (s.take n):Nat):Int),s.drop n,0):=by
 subst hz
 rw [takeS,if_neg (by omega),if_neg (by omega)]
 simp
theorem zqb (d:Disk) (p:Plan) (k:Int) (h:DP d p):AC 39 [diskA d,planA p,.d (.int .i64 k)] (.tup [.d (.int .i64 (rget d p k).1),.d (.int .i64 (rget d p k).2)]):=by
 refine bod Tryz.func39 Tryz.ntmps39 (fun base=>?_)
 have h1:=h.dok
 have h2:=h.pok
 have h3:=h.plen
 by_cases hk:zF k=true
 ·have hdec:(!zF k)=false:=by rw [hk];rfl
  obtain ⟨hk0,hk1⟩:=hostOk_iff.1 hk
  by_cases he:(plook d p (87+k / 32)).2=0
  ·have hb:((plook d p (87+k / 32)).2 !=0)=false:=by simpa using he
   have h64:=zb8 h he
   have hts:=zdO (s:=((plook d p (87+k / 32)).1.drop (2*(k % 32)).toNat)) (z:=2) 2 rfl (by omega) (by omega) (by rw [List.length_drop];omega)
   have hr:=zdo d p k
   have hrg:rget d p k=(((takeN (((plook d p (87+k / 32)).1.drop (2*(k % 32)).toNat).take 2):Nat):Int),0):=by
    rw [rget,if_neg (by rw [hdec];exact Bool.false_ne_true),if_neg (by simpa using he)]
   have hwr:IntKind.i64.wrap (rget d p k).1=(rget d p k).1:=zi (by omega) (by omega)
   rw [hrg] at hwr
   simp only at hwr
   have hld:((plook d p (87+k / 32)).1.drop (2*(k % 32)).toNat).length≤64:=by rw [List.length_drop];omega
   have htk:List.take (plook d p (87+k / 32)).1.length (plook d p (87+k / 32)).1=(plook d p (87+k / 32)).1:=List.take_length
   refine' walkW (zY @zbl hdec hb hts hwr htk) (za zcc <| za zaE <| za zaS <| zb _)
   rw [hrg]
  ·have hb:((plook d p (87+k / 32)).2 !=0)=true:=by simpa using he
   refine' walkW (zN @zbl hdec hb) (za zcc <| za zaE <| za zaS <| zb _)
   rw [rget,if_neg (by rw [hdec];exact Bool.false_ne_true),if_pos he]
 ·have hdec:(!zF k)=true:=by simpa using hk
  refine' walkW (zE @zbl hdec) (za zcc <| za zaE <| za zaS <| zb _)
  rw [rget,if_pos hdec]
@[go_sem] noncomputable def zbE:Ent Tryz.prog 39:= .m3 zv zH (intT .i64) zqb
theorem zlJ {x:Int} :putS8 x 2=putN x.toNat 2:=by rw [putS8,if_neg (by omega)];rfl
theorem zom {x:Int} :putS8 x 4=putN x.toNat 4:=by rw [putS8,if_neg (by omega)];rfl
theorem zsP {x:Int} :putS8 x 8=putN x.toNat 8:=by rw [putS8,if_neg (by omega)];rfl
theorem zfa {d:Disk} {p:Plan} {k:Int} (h:(rget d p k).2=0):0≤k∧k<256:=by
 unfold rget at h
 by_cases hk:zF k=true
 ·exact hostOk_iff.1 hk
 ·rw [if_pos (by simpa using hk)] at h
  cases h
theorem zqc (d:Disk) (p:Plan) (k by_:Int) (h:DP d p):AC 66 [diskA d,planA p,.d (.int .i64 k),.d (.int .i64 by_)] (.tup [planA (radd d p k by_).1,.d (.int .i64 (radd d p k by_).2)]):=by
 refine fbod Tryz.func66 Tryz.ntmps66 (fun base=>?_)
 have h1:=h.dok
 have h2:=h.puts
 have h3:=h.p
 have hr:=zdo d p k
 by_cases he:(rget d p k).2=0
 ·have hb:((rget d p k).2 !=0)=false:=by simpa using he
  obtain ⟨hk0,hk1⟩:=zfa he
  have hw1:IntKind.i64.wrap (0 - (rget d p k).1)= -(rget d p k).1:=by rw [zi (by omega) (by omega)];omega
  have hw2:IntKind.i64.wrap (65535 - (rget d p k).1)=65535 - (rget d p k).1:=zi (by omega) (by omega)
  by_cases hc:by_< -(rget d p k).1∨65535 - (rget d p k).1<by_
  ·have hdec:(decide (by_< -(rget d p k).1)||decide (65535 - (rget d p k).1<by_))=true:=by simpa using hc
   refine' walkW (za4 hb hw1 hw2 hdec) (za zbE <| za zcc <| za zcV <| za zbk <| zb _)
   rw [radd,if_neg (by simpa using he),if_pos hc]
  ·have hdec:(decide (by_< -(rget d p k).1)||decide (65535 - (rget d p k).1<by_))=false:=by simpa using hc
   have hw3:IntKind.i64.wrap ((rget d p k).1+by_)=(rget d p k).1+by_:=zi (by omega) (by omega)
   have hw4:IntKind.u64.wrap ((rget d p k).1+by_)=(rget d p k).1+by_:=zat (by omega) (by omega)
   have hpl:=zZ ((rget d p k).1+by_).toNat 2
   refine' walkW (zY hb hw1 hw2 hw3 hw4 (zE hdec @zlJ)) (za zbE <| za zcc <| za zcV <| za zbk <| zb _)
   all_goals first|(rw [hpl];decide)|skip
   rw [radd,if_neg (by simpa using he),if_neg hc]
 ·have hb:((rget d p k).2 !=0)=true:=by simpa using he
  refine' walkW hb (za zbE <| za zcc <| za zcV <| za zbk <| zb _)
  rw [radd,if_pos he]
@[go_sem] noncomputable def zmB:Ent Tryz.prog 66:= .m4 zv zH (intT .i64) (intT .i64) zqc
theorem zqd (d:Disk) (p:Plan) (n:Int) (h:DP d p):AC 57 [diskA d,planA p,.d (.int .i64 n)] (.tup [.d (.sl 1 ((rall d p n).1.map intD)),.d (.int .i64 (rall d p n).2)]):=by
 refine fbod Tryz.func57 Tryz.ntmps57 (fun base=>?_)
 by_cases hn:n<0∨256<n
 ·have hdec:(decide (n<0)||decide (256<n))=true:=by simpa using hn
  refine' walkW hdec (za zbE <| zb _)
  rw [rall,if_pos hn]
  rfl
 have hdec:(decide (n<0)||decide (256<n))=false:=by simpa using hn
 obtain ⟨m,rfl⟩:∃m:Nat,n=m:=⟨n.toNat,by omega⟩
 have hra:rall d p m=rallK d p m 0 []:=by rw [rall,if_neg hn,Int.toNat_natCast]
 refine' walkW hdec (za zbE <| zb _)
 refine zdf 8 1 rfl ?_
 simp only [fresh,top,hget, ↓reduceIte]
 refine zC (fun q: { q:Nat×List Int // q.1≤m∧q.2.length=q.1∧rall d p m=rallK d p (m - q.1) q.1 q.2 } =>⟨[(2,true,.d (.int .i64 m)),(3,true,.vp 0 0),(4,true,.vp 1 0),(8,true,.osl 2 1 q.1.1 0 q.1.1),(9,true,.d (.int .i64 q.1.1))],[(2,.arr 1 (q.1.2.map intD)),(1,.var [.d (.sl 1 (p.targets.map intD)),.d (.sl 1 (p.texts.map strD))]),(0,(.var [.d (.str d.data),.d (.sl 2 (d.cache.map putD)),.d (.int .i64 d.fuse),.d (.bool d.off),.d (.sl 1 (d.bad.map intD))]))],some []⟩) (fun q=>m - q.1.1) ⟨(0,[]),Nat.zero_le _,rfl,hra⟩ le1 (fun q=>?_)
 obtain ⟨⟨i,l⟩,hi,hll,hf⟩:=q
 simp only at hi hll hf ⊢
 rcases Nat.lt_or_ge i m with hlt|hge
 ·have hcmp:decide ((i:Int)<(m:Int))=true:=decide_eq_true (by omega)
  have hwi:=zG (i:=i) (by omega)
  rw [show m - i=(m - (i+1))+1 by omega,rallK] at hf
  have hlm:(l.map intD).length=i:=by rw [List.length_map,hll]
  refine' walkW hcmp (za zbE <| zb _)
  ·have hc:(rget d p i).2≠0:=by simpa using hc
   rw [hf,if_pos hc]
   rfl
  ·have hc:¬(rget d p i).2≠0:=by simpa using hc
   rw [if_neg hc] at hf
   exact ⟨⟨(i+1,l++ [(rget d p i).1]),by omega,by simp [hll],hf⟩,by simp only [List.map_append];simp only [AS.le,leT,leH,zh,AsgK,AV.le,AV.leL,AObj.le,inH,idsT,idsH,AV.ids,AV.idsL,AV.idsR,AObj.ids,lk,hget,go_sem,aeq,aeq.aeqF,simprocAttr,hwi]<;>and_intros<;>rfl,by simp;omega⟩
 ·have hcmp:decide ((i:Int)<(m:Int))=false:=decide_eq_false (by omega)
  refine' walkW hcmp (za zbE <| zb _)
  have him:i=m:=by omega
  subst him
  rw [if_pos hll.symm,List.take_of_length_le (by simp;omega),hf,Nat.sub_self]
  rfl
@[go_sem] noncomputable def zaK:Ent Tryz.prog 57:= .m3 zv zH (intT .i64) zqd
theorem zhL:∀ (d:Disk) (p:Plan) (m:Nat) (k:Int),(zc0 d p m k).2=0→(0≤(zc0 d p m k).1∧(zc0 d p m k).1<256)
 |d,p,0,k,h=>by simp [zc0] at h
 | d,p,m+1,k,h=>by
  rw [zc0] at h ⊢
  split at h
  ·rename_i hc;exact absurd h hc
  rename_i hc0
  rw [if_neg hc0]
  split at h
  ·rename_i hc;exact absurd h hc
  rename_i hc1
  rw [if_neg hc1]
  split at h
  ·rename_i hc
   rw [if_pos hc]
   exact zfa (by simpa using hc0)
  ·rename_i hc
   rw [if_neg hc]
   exact zhL d p m (k+1) h
open Go Go.Proofs
theorem zoK (d:Disk) (p:Plan) (k:Int) (h:DP d p):AC 87 [diskA d,planA p,.d (.int .i64 k)] (.tup [.d (.int .i64 (rget d p k).1),.d (.int .i64 (rget d p k).2)]):=by
 refine bod Tryz.func87 Tryz.ntmps87 (fun base=>?_)
 have h1:=h.dok
 have h2:=h.pok
 have h3:=h.plen
 by_cases hk:zF k=true
 ·have hdec:(!zF k)=false:=by rw [hk];rfl
  obtain ⟨hk0,hk1⟩:=hostOk_iff.1 hk
  by_cases he:(plook d p (87+k / 32)).2=0
  ·have hb:((plook d p (87+k / 32)).2 !=0)=false:=by simpa using he
   have h64:=zb8 h he
   have hts:=zdO (s:=((plook d p (87+k / 32)).1.drop (2*(k % 32)).toNat)) (z:=2) 2 rfl (by omega) (by omega) (by rw [List.length_drop];omega)
   have hr:=zdo d p k
   have hrg:rget d p k=(((takeN (((plook d p (87+k / 32)).1.drop (2*(k % 32)).toNat).take 2):Nat):Int),0):=by
    rw [rget,if_neg (by rw [hdec];exact Bool.false_ne_true),if_neg (by simpa using he)]
   have hwr:IntKind.i64.wrap (rget d p k).1=(rget d p k).1:=zi (by omega) (by omega)
   rw [hrg] at hwr
   simp only at hwr
   have hld:((plook d p (87+k / 32)).1.drop (2*(k % 32)).toNat).length≤64:=by rw [List.length_drop];omega
   have htk:List.take (plook d p (87+k / 32)).1.length (plook d p (87+k / 32)).1=(plook d p (87+k / 32)).1:=List.take_length
   refine' walkW (zY @zbl hdec hb hts hwr htk) (za zd5 <| za z7 <| za zba <| zb _)
   rw [hrg]
  ·have hb:((plook d p (87+k / 32)).2 !=0)=true:=by simpa using he
   refine' walkW (zN @zbl hdec hb) (za zd5 <| za z7 <| za zba <| zb _)
   rw [rget,if_neg (by rw [hdec];exact Bool.false_ne_true),if_pos he]
 ·have hdec:(!zF k)=true:=by simpa using hk
  refine' walkW (zE @zbl hdec) (za zd5 <| za z7 <| za zba <| zb _)
  rw [rget,if_pos hdec]
@[go_sem] noncomputable def zj:Ent Tryz.prog 87:= .m3 zv zH (intT .i64) zoK
theorem zoL (d:Disk) (p:Plan) (k by_:Int) (h:DP d p):AC 135 [diskA d,planA p,.d (.int .i64 k),.d (.int .i64 by_)] (.tup [planA (radd d p k by_).1,.d (.int .i64 (radd d p k by_).2)]):=by
 refine fbod Tryz.func135 Tryz.ntmps135 (fun base=>?_)
 have h1:=h.dok
 have h2:=h.puts
 have h3:=h.p
 have hr:=zdo d p k
 by_cases he:(rget d p k).2=0
 ·have hb:((rget d p k).2 !=0)=false:=by simpa using he
  obtain ⟨hk0,hk1⟩:=zfa he
  have hw1:IntKind.i64.wrap (0 - (rget d p k).1)= -(rget d p k).1:=by rw [zi (by omega) (by omega)];omega
  have hw2:IntKind.i64.wrap (65535 - (rget d p k).1)=65535 - (rget d p k).1:=zi (by omega) (by omega)
  by_cases hc:by_< -(rget d p k).1∨65535 - (rget d p k).1<by_
  ·have hdec:(decide (by_< -(rget d p k).1)||decide (65535 - (rget d p k).1<by_))=true:=by simpa using hc
   refine' walkW (za4 hb hw1 hw2 hdec) (za zj <| za zd5 <| za zcG <| za zaF <| zb _)
   rw [radd,if_neg (by simpa using he),if_pos hc]
  ·have hdec:(decide (by_< -(rget d p k).1)||decide (65535 - (rget d p k).1<by_))=false:=by simpa using hc
   have hw3:IntKind.i64.wrap ((rget d p k).1+by_)=(rget d p k).1+by_:=zi (by omega) (by omega)
   have hw4:IntKind.u64.wrap ((rget d p k).1+by_)=(rget d p k).1+by_:=zat (by omega) (by omega)
   have hpl:=zZ ((rget d p k).1+by_).toNat 2
   refine' walkW (zY hb hw1 hw2 hw3 hw4 (zE hdec @zlJ)) (za zj <| za zd5 <| za zcG <| za zaF <| zb _)
   all_goals first|(rw [hpl];decide)|skip
   rw [radd,if_neg (by simpa using he),if_neg hc]
 ·have hb:((rget d p k).2 !=0)=true:=by simpa using he
  refine' walkW hb (za zj <| za zd5 <| za zcG <| za zaF <| zb _)
  rw [radd,if_pos he]
@[go_sem] noncomputable def zaH:Ent Tryz.prog 135:= .m4 zv zH (intT .i64) (intT .i64) zoL
def freeL (d:Disk) (p:Plan):Nat→Int→List (Int×Int)
 |0,_=> []
 |m+1,k=>if (rget d p k).2≠0 then [(0,(rget d p k).2)] else if (rget d p0 k).2≠0 then [(0,(rget d p0 k).2)]
  else if (rget d p k).1=0∧(rget d p0 k).1=0 then (k,0)::freeL d p m (k+1) else freeL d p m (k+1)
theorem zgM (d:Disk) (p:Plan):∀ (m:Nat) (k:Int),zc0 d p m k=(freeL d p m k).headD (0,17)
 |0,k=>rfl
 |m+1,k=>by
  rw [zc0,freeL]
  repeat' split
  all_goals first|rfl|exact zgM d p m (k+1)
def freeI (q:Int×Int):List AV:= [.d (.int .i64 q.1),.d (.int .i64 q.2)]
def geomC (g:Geom):List AV:= [.d (.int .i64 g.guest),.d (.int .i64 g.host)]
attribute [go_sem] geomC
theorem zqu (d:Disk) (p:Plan) (g:Geom) (_:True):AC 166 [diskA d,planA p,geomA g] (.fn (.func 189) [] [.dp (geomC g),.dp (planC p),.dp (diskC d)]):=by
 refine fbod Tryz.func166 Tryz.ntmps166 (fun base=>?_)
 refine' zf fx
@[go_sem] noncomputable def zea:Ent Tryz.prog 166:= .m3 zv zH zgD zqu
abbrev Fst (d:Disk) (p:Plan) (g:Geom):= { q:Nat×List (List AV) // (q.1:Int)≤max g.host 0∧q.2++(freeL d p (g.host.toNat - q.1) q.1).map freeI=(freeL d p g.host.toNat 0).map freeI }
theorem zkR (d:Disk) (p:Plan) (g:Geom) (h:DP d p) (hg:g.host≤1000000):AIter Tryz.prog 189 100 [] [.dp [.d (.int .i64 g.guest),.d (.int .i64 g.host)],.dp [.d (.sl 1 (p.targets.map intD)),.d (.sl 1 (p.texts.map strD))],.dp [.d (.str d.data),.d (.sl 2 (d.cache.map putD)),.d (.int .i64 d.fuse),.d (.bool d.off),.d (.sl 1 (d.bad.map intD))]] [] ((freeL d p g.host.toNat 0).map freeI) (fun gg h'=>(∀xs,gg=some xs→xs=(freeL d p g.host.toNat 0).map freeI)∧h'= []):=by
 refine itr Tryz.func189 Tryz.ntmps189 (fun base y=>?_)
 refine zgq ?_
 refine' zay fx
 have hz:=h.zero
 have hz0:p0=Plan.mk [] []:=rfl
 rw [hz0] at hz
 refine zC (fun q:Fst d p g=>⟨[(0,true,.fn (.yield y.yl) [] []),(1,true,.dp [.d (.int .i64 g.guest),.d (.int .i64 g.host)]),(2,true,.dp [.d (.sl 1 (p.targets.map intD)),.d (.sl 1 (p.texts.map strD))]),(3,true,.dp [.d (.str d.data),.d (.sl 2 (d.cache.map putD)),.d (.int .i64 d.fuse),.d (.bool d.off),.d (.sl 1 (d.bad.map intD))]),(12,true,.d (.int .i64 g.host)),(13,true,.d (.int .i64 q.1.1))],[],some q.1.2⟩) (fun q=>g.host.toNat - q.1.1) ⟨(0,[]),by show (_:Int)≤_;omega,rfl⟩ le1 (fun q=>?_)
 obtain ⟨⟨i,xs⟩,hi,hf⟩:=q
 simp only at hi hf ⊢
 by_cases hlt:(i:Int)<g.host
 ·have hcmp:decide ((i:Int)<g.host)=true:=decide_eq_true hlt
  have hwi:=zG (i:=i) (by omega)
  rw [show g.host.toNat - i=(g.host.toNat - (i+1))+1 by omega,freeL,hz0] at hf
  have hr1:=zdo d p i
  have hr2:=zdo d ⟨[],[]⟩ i
  refine' walkX hcmp (za zj <| zb _)
  refine zC (fun r: { r:Nat×Int // (r.1=0∧r.2=0)∨(r.1=1∧(rget d p i).2=0∧r.2=(rget d p i).1)∨(r.1=2∧(rget d p i).2=0∧(rget d ⟨[],[]⟩ i).2=0∧r.2=(rget d p i).1+(rget d ⟨[],[]⟩ i).1) } =>⟨[(0,true,.fn (.yield y.yl) [] []),(1,true,.dp [.d (.int .i64 g.guest),.d (.int .i64 g.host)]),(2,true,.dp [.d (.sl 1 (p.targets.map intD)),.d (.sl 1 (p.texts.map strD))]),(3,true,.dp [.d (.str d.data),.d (.sl 2 (d.cache.map putD)),.d (.int .i64 d.fuse),.d (.bool d.off),.d (.sl 1 (d.bad.map intD))]),(5,true,.d (.int .i64 i)),(6,true,.d (.int .i64 r.1.2)),(12,true,.d (.int .i64 g.host)),(13,true,.d (.int .i64 i)),(18,true,.osl 100 2 2 0 2),(19,true,.d (.int .i64 2)),(20,true,.d (.int .i64 r.1.1))],[(100,.arr 2 [[.sl 1 (p.targets.map intD),.sl 1 (p.texts.map strD)],[.sl 1 [],.sl 1 []]])],some xs⟩) (fun r=>2 - r.1.1) ⟨(0,0),.inl ⟨rfl,rfl⟩⟩ le1 (fun r=>?_)
  obtain ⟨⟨j,n⟩,hj⟩:=r
  simp only at hj ⊢
  have hc0:((0:Nat):Int)=0:=rfl
  have hc1:((1:Nat):Int)=1:=rfl
  have hc2:((2:Nat):Int)=2:=rfl
  have ht1:Int.toNat 1=1:=rfl
  have hw1:IntKind.i64.wrap 1=1:=by decide
  have hw2:IntKind.i64.wrap 2=2:=by decide
  rcases hj with ⟨rfl,rfl⟩|⟨rfl,he1,rfl⟩|⟨rfl,he1,he2,rfl⟩
  ·by_cases he:(rget d p i).2=0
   ·have hb:((rget d p i).2 !=0)=false:=by simpa using he
    have hwn:IntKind.i64.wrap (0+(rget d p i).1)=(rget d p i).1:=by rw [Int.zero_add];exact zi (by omega) (by omega)
    refine' walkX (zN hc0 hb hwn) (za zj <| zb _)
    exact ⟨⟨(1,(rget d p i).1),.inr (.inl ⟨rfl,he,rfl⟩)⟩,by simp only [AS.le,leT,leH,zh,AsgK,AV.le,AV.leL,AObj.le,inH,idsT,idsH,AV.ids,AV.idsL,AV.idsR,AObj.ids,lk,hget,go_sem,aeq,aeq.aeqF,simprocAttr,hw1]<;>and_intros<;>rfl,by simp⟩
   ·have hb:((rget d p i).2 !=0)=true:=by simpa using he
    rw [if_pos (by simpa using he)] at hf
    have hpr:(xs++ [[.d (.int .i64 0),.d (.int .i64 (rget d p i).2)]])<+:(freeL d p g.host.toNat 0).map freeI:=⟨[],by rw [← hf];simp [freeI]⟩
    refine' walkX (zE hc0 hb) (za zj <| zb _)
    rintro zs rfl
    rw [← hf]
    simp [freeI]
  ·by_cases he:(rget d ⟨[],[]⟩ i).2=0
   ·have hb:((rget d ⟨[],[]⟩ i).2 !=0)=false:=by simpa using he
    have hwn:IntKind.i64.wrap ((rget d p i).1+(rget d ⟨[],[]⟩ i).1)=(rget d p i).1+(rget d ⟨[],[]⟩ i).1:=zi (by omega) (by omega)
    refine' walkX (za4 hc1 ht1 hb hwn) (za zj <| zb _)
    exact ⟨⟨(2,(rget d p i).1+(rget d ⟨[],[]⟩ i).1),.inr (.inr ⟨rfl,he1,he,rfl⟩)⟩,by simp only [AS.le,leT,leH,zh,AsgK,AV.le,AV.leL,AObj.le,inH,idsT,idsH,AV.ids,AV.idsL,AV.idsR,AObj.ids,lk,hget,go_sem,aeq,aeq.aeqF,simprocAttr,hw2]<;>and_intros<;>rfl,by simp⟩
   ·have hb:((rget d ⟨[],[]⟩ i).2 !=0)=true:=by simpa using he
    rw [if_neg (by rw [he1];decide),if_pos (by simpa using he)] at hf
    have hpr:(xs++ [[.d (.int .i64 0),.d (.int .i64 (rget d ⟨[],[]⟩ i).2)]])<+:(freeL d p g.host.toNat 0).map freeI:=⟨[],by rw [← hf];simp [freeI]⟩
    refine' walkX (zN hc1 ht1 hb) (za zj <| zb _)
    rintro zs rfl
    rw [← hf]
    simp [freeI]
  ·rw [if_neg (by rw [he1];decide),if_neg (by rw [he2];decide)] at hf
   by_cases hz1:(rget d p i).1=0∧(rget d ⟨[],[]⟩ i).1=0
   ·have hb:((rget d p i).1+(rget d ⟨[],[]⟩ i).1==0)=true:=by rw [beq_iff_eq];omega
    rw [if_pos hz1] at hf
    have hpr:(xs++ [[.d (.int .i64 i),.d (.int .i64 0)]])<+:(freeL d p g.host.toNat 0).map freeI:=⟨(freeL d p (g.host.toNat - (i+1)) (i+1)).map freeI,by rw [← hf];simp [freeI]⟩
    refine' walkX (zE hc2 hb) (za zj <| zb _)
    exact ⟨⟨(i+1,xs++ [freeI (i,0)]),by show ((i+1:Nat):Int)≤_;omega,by rw [← hf];simp [freeI]⟩,by simp only [AS.le,leT,leH,zh,AsgK,AV.le,AV.leL,AObj.le,inH,idsT,idsH,AV.ids,AV.idsL,AV.idsR,AObj.ids,lk,hget,go_sem,aeq,aeq.aeqF,simprocAttr,hwi,freeI],by simp;omega⟩
   ·have hb:((rget d p i).1+(rget d ⟨[],[]⟩ i).1==0)=false:=by rw [beq_eq_false_iff_ne];omega
    rw [if_neg hz1] at hf
    refine' walkX (zE hc2 hb) (za zj <| zb _)
    exact ⟨⟨(i+1,xs),by show ((i+1:Nat):Int)≤_;omega,by rw [← hf];simp⟩,lew,by simp;omega⟩
 ·have hcmp:decide ((i:Int)<g.host)=false:=decide_eq_false hlt
  refine' walkX hcmp (za zj <| zb _)
  rintro zs rfl
  rw [← hf,show g.host.toNat - i=0 by omega]
  simp [freeL]
theorem zqv (d:Disk) (p:Plan) (g:Geom) (hp:DP d p∧g.host≤1000000):AC 134 [diskA d,planA p,geomA g] (.tup [.d (.int .i64 (rfind d p g).1),.d (.int .i64 (rfind d p g).2)]):=by
 obtain ⟨h,hg⟩:=hp
 refine fbod Tryz.func134 Tryz.ntmps134 (fun base=>?_)
 refine' walkR fx (za zea <| zb _)
 have hrf:rfind d p g=(freeL d p g.host.toNat 0).headD (0,17):=zgM d p _ _
 obtain ⟨I,hI⟩:∃I:List (List AV)→AHeap×Option (List (List AV)),I=fun xs=>([(4,.var [.d (.int .i64 17)]),(3,.var [.d (.int .i64 0)]),(2,.var [.d (.int .i64 g.guest),.d (.int .i64 g.host)]),(1,(.var [.d (.sl 1 (p.targets.map intD)),.d (.sl 1 (p.texts.map strD))])),(0,(.var [.d (.str d.data),.d (.sl 2 (d.cache.map putD)),.d (.int .i64 d.fuse),.d (.bool d.off),.d (.sl 1 (d.bad.map intD))]))],some []):=⟨_,rfl⟩
 obtain ⟨G,hG⟩:∃G:List (List AV)→Prop,G=fun xs=>(xs≠ []→False):=⟨_,rfl⟩
 obtain ⟨J,hJ⟩:∃J:Code→AHeap→Option (List (List AV))→Prop,J=fun c h gg=>c= .exit 0∧gg=some []∧h= [(4,.var [.d (.int .i64 (rfind d p g).2)]),(3,.var [.d (.int .i64 (rfind d p g).1)]),(2,.var [.d (.int .i64 g.guest),.d (.int .i64 g.host)]),(1,(.var [.d (.sl 1 (p.targets.map intD)),.d (.sl 1 (p.texts.map strD))])),(0,(.var [.d (.str d.data),.d (.sl 2 (d.cache.map putD)),.d (.int .i64 d.fuse),.d (.bool d.off),.d (.sl 1 (d.bad.map intD))]))]:=⟨_,rfl⟩
 refine za9 100 G I J (zkR d p g h hg) (by simp only [go_sem,aeq,aeq.aeqF,simprocAttr]) rfl (zM rfl) (by simp [cxOf,cxY]) rfl (by rw [hG];first|trivial|rfl|simp) (by rw [hI];simp only [AS.le,leT,leH,zh,AsgK,AV.le,AV.leL,AObj.le,inH,idsT,idsH,AV.ids,AV.idsL,AV.idsR,AObj.ids,lk,hget,go_sem,aeq,aeq.aeqF,simprocAttr]<;>simp [AV.leL,AV.le]) (by rw [hI];simp only [AS.le,leT,leH,zh,AsgK,AV.le,AV.leL,AObj.le,inH,idsT,idsH,AV.ids,AV.idsL,AV.idsR,AObj.ids,lk,hget,go_sem,aeq,aeq.aeqF,simprocAttr]<;>simp) (by rw [hI]<;>rfl) (by intro x hx;obtain ⟨q,_,rfl⟩:=List.mem_map.1 hx;rfl) (by intro t ht;simp at ht;first|(rcases ht with rfl|rfl<;>simp [cxOf,cxY]<;>done)|(subst ht;simp [cxOf,cxY])) ?_ ?_ ?_
 ·intro xs x hpre hgd l1 r1
  rw [hG] at hgd
  obtain rfl:xs= []:=Classical.byContradiction hgd
  obtain ⟨ys,⟨a,e⟩,zs,hys,rfl,hzl⟩:=zdi hpre
  have hys0:ys= []:=by cases ys with|nil=>rfl|cons q r=>simp at hys
  subst hys0
  have hfe:rfind d p g=(a,e):=by rw [hrf,hzl];rfl
  simp only [freeI]
  refine aw_le ⟨[(14,true,.d (.int .i64 a)),(15,true,.d (.int .i64 e)),(8,true,.vp 3 0),(9,true,.vp 4 0)],[(4,.var [.d (.int .i64 17)]),(3,.var [.d (.int .i64 0)]),(2,.var [.d (.int .i64 g.guest),.d (.int .i64 g.host)]),(1,(.var [.d (.sl 1 (p.targets.map intD)),.d (.sl 1 (p.texts.map strD))])),(0,(.var [.d (.str d.data),.d (.sl 2 (d.cache.map putD)),.d (.int .i64 d.fuse),.d (.bool d.off),.d (.sl 1 (d.bad.map intD))]))],some []⟩ (by rw [hI];simp only [AS.le,leT,leH,zh,AsgK,AV.le,AV.leL,AObj.le,inH,idsT,idsH,AV.ids,AV.idsL,AV.idsR,AObj.ids,lk,hget,go_sem,aeq,aeq.aeqF,simprocAttr]) ?_
  refine' walkR hI (za zea <| zb _)
  rw [hJ,hfe]
  exact ⟨rfl,rfl,rfl⟩
 ·intro hgd
  rw [hG] at hgd
  have hgd:=Classical.byContradiction hgd
  rw [hI]
  refine' walkR fx (za zea <| zb _)
  have hfl:freeL d p g.host.toNat 0= []:=by simpa using hgd
  rw [hrf,hfl]
  rfl
 ·rw [hJ]
  rintro c h3 g3 ⟨rfl,rfl,rfl⟩
  refine' walkR fx (za zea <| zb _)
@[go_sem] noncomputable def zmW:Ent Tryz.prog 134:= .m3 zv zH zgD zqv
theorem zqw (d:Disk) (p:Plan) (g:Geom) (hp:DP d p∧g.host≤1000000):AC 83 [diskA d,planA p,geomA g] (.tup [planA (rtake d p g).1,.d (.int .i64 (rtake d p g).2.1),.d (.int .i64 (rtake d p g).2.2)]):=by
 obtain ⟨h,hg⟩:=hp
 refine fbod Tryz.func83 Tryz.ntmps83 (fun base=>?_)
 refine' walkW fx (za zmW <| za zaH <| zb _)
 all_goals simp_all [rtake]
@[go_sem] noncomputable def zu:Ent Tryz.prog 83:= .m3 zv zH zgD zqw
open Go Go.Proofs
structure Root where
 l1:Int
 next:Int
 deriving DecidableEq
def rootA (r:Root):AV:= .agg [.d (.int .i64 r.l1),.d (.int .u32 r.next)]
attribute [go_sem] rootA
theorem zqe (r:Root):Root.mk r.l1 r.next=r:=rfl
noncomputable def ziw:PT Root:=aggT (consL (intT .i64) (consL (intT .u32) nilL)) (fun p=>⟨p.1,p.2.1⟩) (fun x=>(x.l1,x.next,())) (fun _=>rfl)
attribute [go_sem] ziw
attribute [go_sem] zqe
def zlK:Txt:= [67,79,70,82]
def zb9 (r:Root):Txt:=zlK++putN r.l1.toNat 2++putN r.next.toNat 4
def zix (r:Root):Txt:=padR (zb9 r++zeI (sumOf 0 (zb9 r)))
def zbm (s:Txt):Root:=⟨((takeN ((s.drop 4).take 2):Nat):Int),((takeN ((s.drop 6).take 4):Nat):Int)⟩
def rootT (s:Txt):Root×Int:=
 if s.take 4≠zlK then (⟨0,0⟩,14)
 else if zeI (sumOf 0 (s.take 10))≠(s.take 14).drop 10 then (⟨0,0⟩,15)
 else if zF (zbm s).l1=false∨zix (zbm s)≠s then (⟨0,0⟩,14)
 else (zbm s,0)
def zk (d:Disk) (p:Plan):Root×Int:=if (plook d p 1).2≠0 then (⟨0,0⟩,(plook d p 1).2) else rootT (plook d p 1).1
def zdP (p:Plan) (r:Root):Plan×Int:=if zF r.l1=false then (p,10) else pset p 1 (zix r)
theorem zfC (r:Root):(zb9 r).length=10:=by
 rw [zb9,List.length_append,List.length_append,zZ,zZ];rfl
theorem zhM (s:Txt):0≤(zbm s).l1∧(zbm s).l1≤65535∧0≤(zbm s).next∧(zbm s).next≤4294967295:=by
 have h1:=zcE (l:=(s.drop 4).take 2) (i:=2) (by rw [List.length_take];omega)
 have h2:=zcE (l:=(s.drop 6).take 4) (i:=4) (by rw [List.length_take];omega)
 simp only [zbm]
 omega
theorem ziy (k:Int) (_:True):AC 54 [.d (.int .i64 k)] (.d (.bool (zF k))):=by
 refine bod Tryz.func54 Tryz.ntmps54 (fun base=>?_)
 refine' zf fx
 rfl
@[go_sem] noncomputable def zbw:Ent Tryz.prog 54:= .m1 (intT .i64) ziy
theorem zlL {x:Int} (h0:0≤x) (h1:x≤4294967295):IntKind.u32.wrap x=x:=by rw [IntKind.wrap_u32];omega
theorem zmC (t:Root) (hp:0≤t.l1∧t.l1≤65535∧0≤t.next∧t.next≤4294967295):AC 55 [rootA t] (.d (.str (zix t))):=by
 obtain ⟨h0,h1,h2,h3⟩:=hp
 refine fbod Tryz.func55 Tryz.ntmps55 (fun base=>?_)
 have hw1:IntKind.u64.wrap t.l1=t.l1:=zat h0 (by omega)
 have hw2:IntKind.u64.wrap t.next=t.next:=zat h2 (by omega)
 have hl1:=zZ t.l1.toNat 2
 have hl2:=zZ t.next.toNat 4
 have hhd:(67:UInt8)::79::70::82::putN t.l1.toNat 2++putN t.next.toNat 4=zb9 t:=rfl
 have hhl:=zfC t
 have hs:=zkx 0 (zb9 t) (by omega) (by omega)
 have hbl:=zd8 (sumOf 0 (zb9 t))
 refine' walkW (zY hw1 hw2 @zlJ @zom @List.length_cons.{0} (zY @List.length_nil.{0} hl1 hl2 hhd hhl (zE hbl @List.length_append.{0}))) (za zcV <| za ze7 <| za zdn <| za zmm <| zb _)
 rfl
@[go_sem] noncomputable def zcJ:Ent Tryz.prog 55:= .m1 ziw zmC
theorem zon (d:Disk) (p:Plan) (h:DP d p):AC 17 [diskA d,planA p] (.tup [rootA (zk d p).1,.d (.int .i64 (zk d p).2)]):=by
 refine fbod Tryz.func17 Tryz.ntmps17 (fun base=>?_)
 have h1:=h.dok
 have h2:=h.pok
 have h3:=h.plen
 by_cases he:(plook d p 1).2=0
 ·have hb:((plook d p 1).2 !=0)=false:=by simpa using he
  have h64:=zb8 h he
  have hrg:zk d p=rootT (plook d p 1).1:=by rw [zk,if_neg (by simpa using he)]
  obtain ⟨S,hS⟩:∃S,S=(plook d p 1).1:=⟨_,rfl⟩
  rw [← hS] at h64 hrg
  have hr:=zhM S
  have htk:List.take S.length S=S:=List.take_length
  have ht2:=zdO (s:=S.drop 4) (z:=2) 2 rfl (by omega) (by omega) (by rw [List.length_drop];omega)
  have ht4:=zdO (s:=S.drop 6) (z:=4) 4 rfl (by omega) (by omega) (by rw [List.length_drop];omega)
  have hwl:IntKind.i64.wrap (zbm S).l1=(zbm S).l1:=zi (by omega) (by omega)
  have hwn:IntKind.u32.wrap (zbm S).next=(zbm S).next:=zlL (by omega) (by omega)
  simp only [zbm] at hwl hwn hr
  have hL1:(List.take 10 S).length≤64:=by rw [List.length_take];omega
  have hL2:(List.drop 4 S).length≤64:=by rw [List.length_drop];omega
  have hL3:(List.drop 6 S).length≤64:=by rw [List.length_drop];omega
  have hsr:=zkx 0 (S.take 10) (by omega) (by omega)
  refine' walkW (zY hS.symm hb htk ht2 ht4 (zE hwl hwn)) (za zaE <| za ze7 <| za zdn <| za zaS <| za zbw <| za zcJ <| zb _)
  all_goals (rw [hrg,rootT];clear ht2 ht4 hwl hwn htk;simp_all [zbm,zlK];done)
 ·have hb:((plook d p 1).2 !=0)=true:=by simpa using he
  refine' walkW hb (za zaE <| za ze7 <| za zdn <| za zaS <| za zbw <| za zcJ <| zb _)
  rw [zk,if_pos he]
@[go_sem] noncomputable def zaU:Ent Tryz.prog 17:= .m2 zv zH zon
theorem zoo (p:Plan) (t:Root) (hp:pfit p=true∧0≤t.next∧t.next≤4294967295):AC 65 [planA p,rootA t] (.tup [planA (zdP p t).1,.d (.int .i64 (zdP p t).2)]):=by
 obtain ⟨hp,h2,h3⟩:=hp
 refine fbod Tryz.func65 Tryz.ntmps65 (fun base=>?_)
 obtain ⟨hl,h24,h64⟩:=zau hp
 have hpo:PlanOk p:=⟨by omega,by omega⟩
 by_cases hk:zF t.l1=true
 ·obtain ⟨hk0,hk1⟩:=hostOk_iff.1 hk
  refine' walkW hk (za zbw <| za zcJ <| za ze5 <| zb _)
  rw [zdP,if_neg (by rw [hk];exact fun h=>by cases h)]
 ·have hk:zF t.l1=false:=by simpa using hk
  refine' walkW hk (za zbw <| za zcJ <| za ze5 <| zb _)
  rw [zdP,if_pos hk]
@[go_sem] noncomputable def zkz:Ent Tryz.prog 65:= .m2 zH ziw zoo
theorem zmD (k:Int) (_:True):AC 132 [.d (.int .i64 k)] (.d (.bool (!zF k))):=by
 refine bod Tryz.func132 Tryz.ntmps132 (fun base=>?_)
 refine' zf fx
 rw [zbl]
@[go_sem] noncomputable def zfD:Ent Tryz.prog 132:= .m1 (intT .i64) zmD
theorem zmE (t:Root) (hp:0≤t.l1∧t.l1≤65535∧0≤t.next∧t.next≤4294967295):AC 133 [rootA t] (.d (.str (zix t))):=by
 obtain ⟨h0,h1,h2,h3⟩:=hp
 refine fbod Tryz.func133 Tryz.ntmps133 (fun base=>?_)
 have hw1:IntKind.u64.wrap t.l1=t.l1:=zat h0 (by omega)
 have hw2:IntKind.u64.wrap t.next=t.next:=zat h2 (by omega)
 have hl1:=zZ t.l1.toNat 2
 have hl2:=zZ t.next.toNat 4
 have hhd:(67:UInt8)::79::70::82::putN t.l1.toNat 2++putN t.next.toNat 4=zb9 t:=rfl
 have hhl:=zfC t
 have hbl:=zd8 (sumOf 0 (zb9 t))
 refine' walkW (zY hw1 hw2 @zlJ @zom @List.length_cons.{0} (zY @List.length_nil.{0} hl1 hl2 hhd hhl (zE hbl @List.length_append.{0}))) (za zcG <| za zcd <| za za2 <| za zfT <| zb _)
 rfl
@[go_sem] noncomputable def zfE:Ent Tryz.prog 133:= .m1 ziw zmE
theorem zmF (s:Txt) (at_ size:Int) (hp:0≤at_∧at_≤s.length∧s.length≤9223372036854775807):AC 131 [.d (.str s),.d (.int .i64 at_),.d (.int .i64 size)] (.d (.int .u64 (takeS (s.drop at_.toNat) size).1)):=by
 obtain ⟨h0,h1,hs⟩:=hp
 refine fbod Tryz.func131 Tryz.ntmps131 (fun base=>?_)
 have htk:List.take s.length s=s:=List.take_length
 have hL2:(List.drop at_.toNat s).length≤9223372036854775807:=by rw [List.length_drop];omega
 refine' walkW htk (za zba <| zb _)
@[go_sem] noncomputable def zfF:Ent Tryz.prog 131:= .m3 strT (intT .i64) (intT .i64) zmF
theorem zmG (d:Disk) (p:Plan) (h:DP d p):AC 82 [diskA d,planA p] (.tup [rootA (zk d p).1,.d (.int .i64 (zk d p).2)]):=by
 refine fbod Tryz.func82 Tryz.ntmps82 (fun base=>?_)
 have h1:=h.dok
 have h2:=h.pok
 have h3:=h.plen
 by_cases he:(plook d p 1).2=0
 ·have hb:((plook d p 1).2 !=0)=false:=by simpa using he
  have h64:=zb8 h he
  have hrg:zk d p=rootT (plook d p 1).1:=by rw [zk,if_neg (by simpa using he)]
  obtain ⟨S,hS⟩:∃S,S=(plook d p 1).1:=⟨_,rfl⟩
  rw [← hS] at h64 hrg
  have hr:=zhM S
  have htk:List.take S.length S=S:=List.take_length
  have ht2:=zdO (s:=S.drop 4) (z:=2) 2 rfl (by omega) (by omega) (by rw [List.length_drop];omega)
  have ht4:=zdO (s:=S.drop 6) (z:=4) 4 rfl (by omega) (by omega) (by rw [List.length_drop];omega)
  have hwl:IntKind.i64.wrap (zbm S).l1=(zbm S).l1:=zi (by omega) (by omega)
  have hwn:IntKind.u32.wrap (zbm S).next=(zbm S).next:=zlL (by omega) (by omega)
  simp only [zbm] at hwl hwn hr
  have hL1:(List.take 10 S).length≤64:=by rw [List.length_take];omega
  have hpx:List.isPrefixOf [67,79,70,82] S=(S.take 4== [67,79,70,82]):=by
   rw [Bool.eq_iff_iff,List.isPrefixOf_iff_prefix,List.prefix_iff_eq_take,beq_iff_eq]
   exact ⟨fun h=>h.symm,fun h=>h.symm⟩
  refine' walkW (zY hS.symm hb htk ht2 ht4 (zN hwl hwn hpx)) (za z7 <| za zcd <| za za2 <| za zfF <| za zfD <| za zfE <| za zei <| zb _)
  all_goals (rw [hrg,rootT];clear ht2 ht4 hwl hwn htk hpx;simp_all [zbm,zlK];done)
 ·have hb:((plook d p 1).2 !=0)=true:=by simpa using he
  refine' walkW hb (za z7 <| za zcd <| za za2 <| za zfF <| za zfD <| za zfE <| za zei <| zb _)
  rw [zk,if_pos he]
@[go_sem] noncomputable def zo:Ent Tryz.prog 82:= .m2 zv zH zmG
open Go Go.Proofs
end Go.Aw
