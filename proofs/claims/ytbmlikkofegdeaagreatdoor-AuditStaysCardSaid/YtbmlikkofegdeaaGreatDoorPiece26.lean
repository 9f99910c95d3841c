/-
  Parts of the proof: RefcA, RefcB, RootA (short names; the readable texts lie in the repo, under wip).
-/
import Derived.Test.YtbmlikkofegdeaaGreatDoorPiece25
import Derived.Test.YtbmlikkofegdeaaGreatDoorPiece17
set_option maxRecDepth 100000
set_option maxHeartbeats 2000000
set_option linter.unusedSimpArgs false
set_option linter.unusedVariables false
namespace Go.Aw
open Go Go.Proofs
structure Geom where
 guest:Int
 host:Int
 deriving DecidableEq
def geomA (g:Geom):AV:= .agg [.d (.int .i64 g.guest),.d (.int .i64 g.host)]
attribute [go_sem] geomA
theorem zvd (g:Geom):Geom.mk g.guest g.host=g:=rfl
noncomputable def zeo:PT Geom:=aggT (consL (intT .i64) (consL (intT .i64) nilL)) (λp=>⟨p.1,p.2.1⟩) (λx=>(x.guest,x.host,())) (λ_=>rfl)
attribute [go_sem] zeo
attribute [go_sem] zvd
structure DP (d:Disk) (p:Plan):Prop where
 d:DiskF d
 p:pfit p=true
def p0:Plan:=⟨[],[]⟩
theorem zaw:pfit p0=true:=rfl
theorem DP.zero {d:Disk} {p:Plan} (h:DP d p):DP d p0:=⟨h.d,zaw⟩
theorem DP.dok {d:Disk} {p:Plan} (h:DP d p):DiskOk d:=h.d.ok
theorem DP.puts {d:Disk} {p:Plan} (h:DP d p):d.cache.all (putOk d)=true:=h.d.puts
theorem DP.pok {d:Disk} {p:Plan} (h:DP d p):PlanOk p:=by obtain ⟨hl,h24,_⟩:=zay h.p;exact ⟨by omega,by omega⟩
theorem DP.plen {d:Disk} {p:Plan} (h:DP d p):p.targets.length=p.texts.length:=(zay h.p).1
theorem zll {d:Disk} {at_:Int} (hf:d.cache.all (putOk d)=true) (he:(dread d at_).2=0):(dread d at_).1.length=64:=by
 unfold dread at he ⊢;repeat' split
 all_goals first|(simp_all;done)|skip
 exact zpo hf (by simp_all)
theorem zch {d:Disk} {p:Plan} {at_:Int} (h:DP d p) (he:(plook d p at_).2=0):(plook d p at_).1.length=64:=by
 unfold plook at he ⊢;rcases zbd p.targets at_ with hk|⟨k,hk,hkl⟩
 ·rw [if_neg (by omega)] at he ⊢;exact zll h.puts he
 ·rw [if_pos (by omega),hk,Int.toNat_natCast];obtain ⟨s,hq⟩:=zas (l:=p.texts) (i:=k) (by have:=h.plen;omega);rw [List.getD_eq_getElem?_getD,hq];exact (zay h.p).2.2 s (List.mem_of_getElem? hq)
def zG (k:Int):Bool:=decide (0<=k)&&decide (k<256)
def rget (d:Disk) (p:Plan) (k:Int):Int×Int:=
 if !zG k then (0,10) else if (plook d p (87+k / 32)).2≠0 then (0,(plook d p (87+k / 32)).2)
 else (((takeN (((plook d p (87+k / 32)).1.drop (2*(k % 32)).toNat).take 2):Nat):Int),0)
def radd (d:Disk) (p:Plan) (k by_:Int):Plan×Int:=
 if (rget d p k).2≠0 then (p,(rget d p k).2) else if by_< -(rget d p k).1\/65535 - (rget d p k).1<by_ then (p,18)
 else zcq d p (87+k / 32) (2*(k % 32)) (putN ((rget d p k).1+by_).toNat 2)
def rallK (d:Disk) (p:Plan):Nat->Int->List Int->List Int×Int
 |0,_,l=>(l,0)
 |m+1,k,l=>if (rget d p k).2≠0 then ([],(rget d p k).2) else rallK d p m (k+1) (l++ [(rget d p k).1])
def rall (d:Disk) (p:Plan) (n:Int):List Int×Int:=if n<0\/256<n then ([],10) else rallK d p n.toNat 0 []
def zdX (d:Disk) (p:Plan):Nat->Int->Int×Int
 |0,_=>(0,17)
 |m+1,k=>if (rget d p k).2≠0 then (0,(rget d p k).2) else if (rget d p0 k).2≠0 then (0,(rget d p0 k).2)
  else if (rget d p k).1=0/\(rget d p0 k).1=0 then (k,0) else zdX d p m (k+1)
def rfind (d:Disk) (p:Plan) (g:Geom):Int×Int:=zdX d p g.host.toNat 0
def rtake (d:Disk) (p:Plan) (g:Geom):Plan×Int×Int:=
 if (rfind d p g).2≠0 then (p,0,(rfind d p g).2) else if (radd d p (rfind d p g).1 1).2≠0 then (p,0,(radd d p (rfind d p g).1 1).2)
 else ((radd d p (rfind d p g).1 1).1,(rfind d p g).1,0)
theorem zed (d:Disk) (p:Plan) (k:Int):0<=(rget d p k).1/\(rget d p k).1<=65535:=by
 unfold rget;split
 ·exact ⟨Int.le_refl 0,show (0:Int)<=65535 by decide⟩
 split
 ·exact ⟨Int.le_refl 0,show (0:Int)<=65535 by decide⟩
 ·have:=zcg (l:=((plook d p (87+k / 32)).1.drop (2*(k % 32)).toNat).take 2) (i:=2) (by rw [List.length_take];omega);simp only;omega
theorem zlm {d:Disk} {p:Plan} {k by_:Int} (h:pfit p=true):pfit (radd d p k by_).1=true:=by
 unfold radd;split
 ·exact h
 split
 ·exact h
 ·exact zhj h
theorem DP.radd {d:Disk} {p:Plan} (h:DP d p) (k by_:Int):DP d (radd d p k by_).1:=⟨h.d,zlm h.p⟩
theorem DP.rtake {d:Disk} {p:Plan} (h:DP d p) (g:Geom):DP d (rtake d p g).1:=by
 unfold Aw.rtake;split
 ·exact h
 split
 ·exact h
 ·exact h.radd _ _
theorem hostOk_iff {k:Int} :zG k=true↔0<=k/\k<256:=by simp [zG]
theorem zcu (k:Int):(decide (k<0)||decide (256<=k))= !zG k:=by
 rw [zG,Bool.not_and];congr 1
 ·by_cases h:k<0
  ·rw [decide_eq_true h,decide_eq_false (by omega)];rfl
  ·rw [decide_eq_false h,decide_eq_true (by omega)];rfl
 ·by_cases h:k<256
  ·rw [decide_eq_true h,decide_eq_false (by omega)];rfl
  ·rw [decide_eq_false h,decide_eq_true (by omega)];rfl
theorem zdl {s:Txt} {z:Int} (n:Nat) (hz:z=n) (h0:0<n) (h8:n<=8) (h:n<=s.length):takeS s z=(((takeN (s.take n):Nat):Int),s.drop n,0):=by subst hz;rw [takeS,if_neg (by omega),if_neg (by omega)];simp
theorem zve (d:Disk) (p:Plan) (k:Int) (h:DP d p):AC 97 [diskA d,planA p,.d (.int .i64 k)] (.tup [.d (.int .i64 (rget d p k).1),.d (.int .i64 (rget d p k).2)]):=by
 refine bod Tryz.func97 Tryz.ntmps97 (λbase=>?_);have h1:=h.dok;have h2:=h.pok;have h3:=h.plen;by_cases hk:zG k=true
 ·have hdec:(!zG k)=false:=by rw [hk];rfl
  obtain ⟨hk0,hk1⟩:=hostOk_iff.1 hk;by_cases he:(plook d p (87+k / 32)).2=0
  ·have hb:((plook d p (87+k / 32)).2 !=0)=false:=by simpa using he
   have h64:=zch h he;have hts:=zdl (s:=((plook d p (87+k / 32)).1.drop (2*(k % 32)).toNat)) (z:=2) 2 rfl (by omega) (by omega) (by rw [List.length_drop];omega);have hr:=zed d p k
   have hrg:rget d p k=(((takeN (((plook d p (87+k / 32)).1.drop (2*(k % 32)).toNat).take 2):Nat):Int),0):=by rw [rget,if_neg (by rw [hdec];exact Bool.false_ne_true),if_neg (by simpa using he)]
   have hwr:IntKind.i64.wrap (rget d p k).1=(rget d p k).1:=zg (by omega) (by omega);rw [hrg] at hwr;simp only at hwr;have hld:((plook d p (87+k / 32)).1.drop (2*(k % 32)).toNat).length<=64:=by rw [List.length_drop];omega
   have htk:List.take (plook d p (87+k / 32)).1.length (plook d p (87+k / 32)).1=(plook d p (87+k / 32)).1:=List.take_length;refine' walkW (zL @zcu hdec hb hts hwr htk) (za zdC <| za zA <| za zV <| zb _);rw [hrg]
  ·have hb:((plook d p (87+k / 32)).2 !=0)=true:=by simpa using he
   refine' walkW (zB @zcu hdec hb) (za zdC <| za zA <| za zV <| zb _);rw [rget,if_neg (by rw [hdec];exact Bool.false_ne_true),if_pos he]
 ·have hdec:(!zG k)=true:=by simpa using hk
  refine' walkW (zn @zcu hdec) (za zdC <| za zA <| za zV <| zb _);rw [rget,if_pos hdec]
@[go_sem] noncomputable def zcv:Ent Tryz.prog 97:= .m3 zu zw (intT .i64) zve
theorem ziU {x:Int} :putS8 x 2=putN x.toNat 2:=by rw [putS8,if_neg (by omega)];rfl
theorem zkn {x:Int} :putS8 x 4=putN x.toNat 4:=by rw [putS8,if_neg (by omega)];rfl
theorem zyr {x:Int} :putS8 x 8=putN x.toNat 8:=by rw [putS8,if_neg (by omega)];rfl
theorem ziV {d:Disk} {p:Plan} {k:Int} (h:(rget d p k).2=0):0<=k/\k<256:=by
 unfold rget at h;by_cases hk:zG k=true
 ·exact hostOk_iff.1 hk
 ·rw [if_pos (by simpa using hk)] at h;cases h
theorem zvf (d:Disk) (p:Plan) (k by_:Int) (h:DP d p):AC 58 [diskA d,planA p,.d (.int .i64 k),.d (.int .i64 by_)] (.tup [planA (radd d p k by_).1,.d (.int .i64 (radd d p k by_).2)]):=by
 refine fbod Tryz.func58 Tryz.ntmps58 (λbase=>?_);have h1:=h.dok;have h2:=h.puts;have h3:=h.p;have hr:=zed d p k;by_cases he:(rget d p k).2=0
 ·have hb:((rget d p k).2 !=0)=false:=by simpa using he
  obtain ⟨hk0,hk1⟩:=ziV he;have hw1:IntKind.i64.wrap (0 - (rget d p k).1)= -(rget d p k).1:=by rw [zg (by omega) (by omega)];omega
  have hw2:IntKind.i64.wrap (65535 - (rget d p k).1)=65535 - (rget d p k).1:=zg (by omega) (by omega);by_cases hc:by_< -(rget d p k).1\/65535 - (rget d p k).1<by_
  ·have hdec:(decide (by_< -(rget d p k).1)||decide (65535 - (rget d p k).1<by_))=true:=by simpa using hc
   refine' walkW (zah hb hw1 hw2 hdec) (za zcv <| za zdC <| za zat <| za zar <| zb _);rw [radd,if_neg (by simpa using he),if_pos hc]
  ·have hdec:(decide (by_< -(rget d p k).1)||decide (65535 - (rget d p k).1<by_))=false:=by simpa using hc
   have hw3:IntKind.i64.wrap ((rget d p k).1+by_)=(rget d p k).1+by_:=zg (by omega) (by omega);have hw4:IntKind.u64.wrap ((rget d p k).1+by_)=(rget d p k).1+by_:=zad (by omega) (by omega);have hpl:=zK ((rget d p k).1+by_).toNat 2;refine' walkW (zL hb hw1 hw2 hw3 hw4 (zn hdec @ziU)) (za zcv <| za zdC <| za zat <| za zar <| zb _);all_goals first|(rw [hpl];decide)|skip
   rw [radd,if_neg (by simpa using he),if_neg hc]
 ·have hb:((rget d p k).2 !=0)=true:=by simpa using he
  refine' walkW hb (za zcv <| za zdC <| za zat <| za zar <| zb _);rw [radd,if_pos he]
@[go_sem] noncomputable def zaT:Ent Tryz.prog 58:= .m4 zu zw (intT .i64) (intT .i64) zvf
theorem zko:∀ (d:Disk) (p:Plan) (m:Nat) (k:Int),(zdX d p m k).2=0->(0<=(zdX d p m k).1/\(zdX d p m k).1<256)
 |d,p,0,k,h=>by simp [zdX] at h
 | d,p,m+1,k,h=>by
  rw [zdX] at h ⊢;split at h
  ·rename_i hc;exact absurd h hc
  rename_i hc0;rw [if_neg hc0];split at h
  ·rename_i hc;exact absurd h hc
  rename_i hc1;rw [if_neg hc1];split at h
  ·rename_i hc;rw [if_pos hc];exact ziV (by simpa using hc0)
  ·rename_i hc;rw [if_neg hc];exact zko d p m (k+1) h
theorem zsO (d:Disk) (p:Plan) (g:Geom) (hp:DP d p/\g.host<=1000000):AC 130 [diskA d,planA p,geomA g] (.tup [.d (.int .i64 (rfind d p g).1),.d (.int .i64 (rfind d p g).2)]):=by
 obtain ⟨h,hg⟩:=hp;refine fbod Tryz.func130 Tryz.ntmps130 (λbase=>?_);have hz:=h.zero;have hz0:p0=Plan.mk [] []:=rfl;rw [hz0] at hz;refine' walkW fx (za zcv <| za zaT <| zb _);refine zq (λq: { i:Nat // (i:Int)<=max g.host 0/\rfind d p g=zdX d p (g.host.toNat - i) i } =>⟨[(3,true,.vp 0 0),(4,true,.vp 1 0),(5,true,.vp 2 0),(8,true,.d (.int .i64 q.1))],[(2,.var [.d (.int .i64 g.guest),.d (.int .i64 g.host)]),(1,.var [.d (.sl 1 (p.targets.map intD)),.d (.sl 1 (p.texts.map strD))]),(0,(.var [.d (.str d.data),.d (.sl 2 (d.cache.map putD)),.d (.int .i64 d.fuse),.d (.bool d.off),.d (.sl 1 (d.bad.map intD))]))],some []⟩) (λq=>g.host.toNat - q.1) ⟨0,by omega,rfl⟩ le1 (λq=>?_);obtain ⟨i,hi,hf⟩:=q;simp only at hi hf ⊢;by_cases hlt:(i:Int)<g.host
 ·have hcmp:decide ((i:Int)<g.host)=true:=decide_eq_true hlt;have hwi:=zr (i:=i) (by omega);rw [show g.host.toNat - i=(g.host.toNat - (i+1))+1 by omega,zdX,hz0] at hf;refine' walkW hcmp (za zcv <| za zaT <| zb _);all_goals first|(simp_all;done)|skip
  rename_i c0 c1;have c0:¬(rget d p i).2≠0:=by simpa using c0
  have c1:¬(rget d ⟨[],[]⟩ i).2≠0:=by simpa using c1
  have c2:¬((rget d p i).1=0/\(rget d ⟨[],[]⟩ i).1=0):=by simpa using hc
  rw [if_neg c0,if_neg c1,if_neg c2] at hf;exact ⟨⟨i+1,by omega,hf⟩,lew,by simp;omega⟩
 ·have hcmp:decide ((i:Int)<g.host)=false:=decide_eq_false hlt;refine' walkW hcmp (za zcv <| za zaT <| zb _);rw [hf,show g.host.toNat - i=0 by omega];rfl
@[go_sem] noncomputable def zn3:Ent Tryz.prog 130:= .m3 zu zw zeo zsO
theorem zsP (d:Disk) (p:Plan) (g:Geom) (hp:DP d p/\g.host<=1000000):AC 48 [diskA d,planA p,geomA g] (.tup [planA (rtake d p g).1,.d (.int .i64 (rtake d p g).2.1),.d (.int .i64 (rtake d p g).2.2)]):=by obtain ⟨h,hg⟩:=hp;refine fbod Tryz.func48 Tryz.ntmps48 (λbase=>?_);refine' walkW fx (za zn3 <| za zaT <| zb _);all_goals simp_all [rtake]
@[go_sem] noncomputable def zbN:Ent Tryz.prog 48:= .m3 zu zw zeo zsP
open Go Go.Proofs
theorem ztg (d:Disk) (p:Plan) (k:Int) (h:DP d p):AC 138 [diskA d,planA p,.d (.int .i64 k)] (.tup [.d (.int .i64 (rget d p k).1),.d (.int .i64 (rget d p k).2)]):=by
 refine bod Tryz.func138 Tryz.ntmps138 (λbase=>?_);have h1:=h.dok;have h2:=h.pok;have h3:=h.plen;by_cases hk:zG k=true
 ·have hdec:(!zG k)=false:=by rw [hk];rfl
  obtain ⟨hk0,hk1⟩:=hostOk_iff.1 hk;by_cases he:(plook d p (87+k / 32)).2=0
  ·have hb:((plook d p (87+k / 32)).2 !=0)=false:=by simpa using he
   have h64:=zch h he;have hts:=zdl (s:=((plook d p (87+k / 32)).1.drop (2*(k % 32)).toNat)) (z:=2) 2 rfl (by omega) (by omega) (by rw [List.length_drop];omega);have hr:=zed d p k
   have hrg:rget d p k=(((takeN (((plook d p (87+k / 32)).1.drop (2*(k % 32)).toNat).take 2):Nat):Int),0):=by rw [rget,if_neg (by rw [hdec];exact Bool.false_ne_true),if_neg (by simpa using he)]
   have hwr:IntKind.i64.wrap (rget d p k).1=(rget d p k).1:=zg (by omega) (by omega);rw [hrg] at hwr;simp only at hwr;have hld:((plook d p (87+k / 32)).1.drop (2*(k % 32)).toNat).length<=64:=by rw [List.length_drop];omega
   have htk:List.take (plook d p (87+k / 32)).1.length (plook d p (87+k / 32)).1=(plook d p (87+k / 32)).1:=List.take_length;refine' walkW (zL @zcu hdec hb hts hwr htk) (za zfL <| za z2 <| za zcc <| zb _);rw [hrg]
  ·have hb:((plook d p (87+k / 32)).2 !=0)=true:=by simpa using he
   refine' walkW (zB @zcu hdec hb) (za zfL <| za z2 <| za zcc <| zb _);rw [rget,if_neg (by rw [hdec];exact Bool.false_ne_true),if_pos he]
 ·have hdec:(!zG k)=true:=by simpa using hk
  refine' walkW (zn @zcu hdec) (za zfL <| za z2 <| za zcc <| zb _);rw [rget,if_pos hdec]
@[go_sem] noncomputable def zk:Ent Tryz.prog 138:= .m3 zu zw (intT .i64) ztg
theorem zth (d:Disk) (p:Plan) (k by_:Int) (h:DP d p):AC 56 [diskA d,planA p,.d (.int .i64 k),.d (.int .i64 by_)] (.tup [planA (radd d p k by_).1,.d (.int .i64 (radd d p k by_).2)]):=by
 refine fbod Tryz.func56 Tryz.ntmps56 (λbase=>?_);have h1:=h.dok;have h2:=h.puts;have h3:=h.p;have hr:=zed d p k;by_cases he:(rget d p k).2=0
 ·have hb:((rget d p k).2 !=0)=false:=by simpa using he
  obtain ⟨hk0,hk1⟩:=ziV he;have hw1:IntKind.i64.wrap (0 - (rget d p k).1)= -(rget d p k).1:=by rw [zg (by omega) (by omega)];omega
  have hw2:IntKind.i64.wrap (65535 - (rget d p k).1)=65535 - (rget d p k).1:=zg (by omega) (by omega);by_cases hc:by_< -(rget d p k).1\/65535 - (rget d p k).1<by_
  ·have hdec:(decide (by_< -(rget d p k).1)||decide (65535 - (rget d p k).1<by_))=true:=by simpa using hc
   refine' walkW (zah hb hw1 hw2 hdec) (za zk <| za zfL <| za zda <| za zaJ <| zb _);rw [radd,if_neg (by simpa using he),if_pos hc]
  ·have hdec:(decide (by_< -(rget d p k).1)||decide (65535 - (rget d p k).1<by_))=false:=by simpa using hc
   have hw3:IntKind.i64.wrap ((rget d p k).1+by_)=(rget d p k).1+by_:=zg (by omega) (by omega);have hw4:IntKind.u64.wrap ((rget d p k).1+by_)=(rget d p k).1+by_:=zad (by omega) (by omega);have hpl:=zK ((rget d p k).1+by_).toNat 2;refine' walkW (zL hb hw1 hw2 hw3 hw4 (zn hdec @ziU)) (za zk <| za zfL <| za zda <| za zaJ <| zb _);all_goals first|(rw [hpl];decide)|skip
   rw [radd,if_neg (by simpa using he),if_neg hc]
 ·have hb:((rget d p k).2 !=0)=true:=by simpa using he
  refine' walkW hb (za zk <| za zfL <| za zda <| za zaJ <| zb _);rw [radd,if_pos he]
@[go_sem] noncomputable def zW:Ent Tryz.prog 56:= .m4 zu zw (intT .i64) (intT .i64) zth
def freeL (d:Disk) (p:Plan):Nat->Int->List (Int×Int)
 |0,_=> []
 |m+1,k=>if (rget d p k).2≠0 then [(0,(rget d p k).2)] else if (rget d p0 k).2≠0 then [(0,(rget d p0 k).2)]
  else if (rget d p k).1=0/\(rget d p0 k).1=0 then (k,0)::freeL d p m (k+1) else freeL d p m (k+1)
theorem zi6 (d:Disk) (p:Plan):∀ (m:Nat) (k:Int),zdX d p m k=(freeL d p m k).headD (0,17)
 |0,k=>rfl
 |m+1,k=>by
  rw [zdX,freeL];repeat' split
  all_goals first|rfl|exact zi6 d p m (k+1)
def freeI (q:Int×Int):List AV:= [.d (.int .i64 q.1),.d (.int .i64 q.2)]
def geomC (g:Geom):List AV:= [.d (.int .i64 g.guest),.d (.int .i64 g.host)]
attribute [go_sem] geomC
theorem zvw (d:Disk) (p:Plan) (g:Geom) (_:True):AC 186 [diskA d,planA p,geomA g] (.fn (.func 234) [] [.dp (geomC g),.dp (planC p),.dp (diskC d)]):=by refine fbod Tryz.func186 Tryz.ntmps186 (λbase=>?_);refine' zc fx
@[go_sem] noncomputable def zfW:Ent Tryz.prog 186:= .m3 zu zw zeo zvw
abbrev Fst (d:Disk) (p:Plan) (g:Geom):= { q:Nat×List (List AV) // (q.1:Int)<=max g.host 0/\q.2++(freeL d p (g.host.toNat - q.1) q.1).map freeI=(freeL d p g.host.toNat 0).map freeI }
theorem zoq (d:Disk) (p:Plan) (g:Geom) (h:DP d p) (hg:g.host<=1000000):AIter Tryz.prog 234 100 [] [.dp [.d (.int .i64 g.guest),.d (.int .i64 g.host)],.dp [.d (.sl 1 (p.targets.map intD)),.d (.sl 1 (p.texts.map strD))],.dp [.d (.str d.data),.d (.sl 2 (d.cache.map putD)),.d (.int .i64 d.fuse),.d (.bool d.off),.d (.sl 1 (d.bad.map intD))]] [] ((freeL d p g.host.toNat 0).map freeI) (λgg h'=>(∀xs,gg=some xs->xs=(freeL d p g.host.toNat 0).map freeI)/\h'= []):=by
 refine itr Tryz.func234 Tryz.ntmps234 (λbase y=>?_);refine zfq ?_;refine' z7 fx;have hz:=h.zero;have hz0:p0=Plan.mk [] []:=rfl;rw [hz0] at hz;refine zq (λq:Fst d p g=>⟨[(0,true,.fn (.yield y.yl) [] []),(1,true,.dp [.d (.int .i64 g.guest),.d (.int .i64 g.host)]),(2,true,.dp [.d (.sl 1 (p.targets.map intD)),.d (.sl 1 (p.texts.map strD))]),(3,true,.dp [.d (.str d.data),.d (.sl 2 (d.cache.map putD)),.d (.int .i64 d.fuse),.d (.bool d.off),.d (.sl 1 (d.bad.map intD))]),(12,true,.d (.int .i64 g.host)),(13,true,.d (.int .i64 q.1.1))],[],some q.1.2⟩) (λq=>g.host.toNat - q.1.1) ⟨(0,[]),by show (_:Int)<=_;omega,rfl⟩ le1 (λq=>?_);obtain ⟨⟨i,xs⟩,hi,hf⟩:=q;simp only at hi hf ⊢;by_cases hlt:(i:Int)<g.host
 ·have hcmp:decide ((i:Int)<g.host)=true:=decide_eq_true hlt;have hwi:=zr (i:=i) (by omega);rw [show g.host.toNat - i=(g.host.toNat - (i+1))+1 by omega,freeL,hz0] at hf;have hr1:=zed d p i;have hr2:=zed d ⟨[],[]⟩ i;refine' walkX hcmp (za zk <| zb _);refine zq (λr: { r:Nat×Int // (r.1=0/\r.2=0)\/(r.1=1/\(rget d p i).2=0/\r.2=(rget d p i).1)\/(r.1=2/\(rget d p i).2=0/\(rget d ⟨[],[]⟩ i).2=0/\r.2=(rget d p i).1+(rget d ⟨[],[]⟩ i).1) } =>⟨[(0,true,.fn (.yield y.yl) [] []),(1,true,.dp [.d (.int .i64 g.guest),.d (.int .i64 g.host)]),(2,true,.dp [.d (.sl 1 (p.targets.map intD)),.d (.sl 1 (p.texts.map strD))]),(3,true,.dp [.d (.str d.data),.d (.sl 2 (d.cache.map putD)),.d (.int .i64 d.fuse),.d (.bool d.off),.d (.sl 1 (d.bad.map intD))]),(5,true,.d (.int .i64 i)),(6,true,.d (.int .i64 r.1.2)),(12,true,.d (.int .i64 g.host)),(13,true,.d (.int .i64 i)),(18,true,.osl 100 2 2 0 2),(19,true,.d (.int .i64 2)),(20,true,.d (.int .i64 r.1.1))],[(100,.arr 2 [[.sl 1 (p.targets.map intD),.sl 1 (p.texts.map strD)],[.sl 1 [],.sl 1 []]])],some xs⟩) (λr=>2 - r.1.1) ⟨(0,0),.inl ⟨rfl,rfl⟩⟩ le1 (λr=>?_);obtain ⟨⟨j,n⟩,hj⟩:=r;simp only at hj ⊢;have hc0:((0:Nat):Int)=0:=rfl;have hc1:((1:Nat):Int)=1:=rfl;have hc2:((2:Nat):Int)=2:=rfl;have ht1:Int.toNat 1=1:=rfl;have hw1:IntKind.i64.wrap 1=1:=by decide
  have hw2:IntKind.i64.wrap 2=2:=by decide
  rcases hj with ⟨rfl,rfl⟩|⟨rfl,he1,rfl⟩|⟨rfl,he1,he2,rfl⟩
  ·by_cases he:(rget d p i).2=0
   ·have hb:((rget d p i).2 !=0)=false:=by simpa using he
    have hwn:IntKind.i64.wrap (0+(rget d p i).1)=(rget d p i).1:=by rw [Int.zero_add];exact zg (by omega) (by omega)
    refine' walkX (zB hc0 hb hwn) (za zk <| zb _);exact ⟨⟨(1,(rget d p i).1),.inr (.inl ⟨rfl,he,rfl⟩)⟩,by simp only [AS.le,leT,leH,zf,AsgK,AV.le,AV.leL,AObj.le,inH,idsT,idsH,AV.ids,AV.idsL,AV.idsR,AObj.ids,lk,hget,go_sem,aeq,aeq.aeqF,simprocAttr,hw1]<;>and_intros<;>rfl,by simp⟩
   ·have hb:((rget d p i).2 !=0)=true:=by simpa using he
    rw [if_pos (by simpa using he)] at hf;have hpr:(xs++ [[.d (.int .i64 0),.d (.int .i64 (rget d p i).2)]])<+:(freeL d p g.host.toNat 0).map freeI:=⟨[],by rw [<-hf];simp [freeI]⟩
    refine' walkX (zn hc0 hb) (za zk <| zb _);rintro zs rfl;rw [<-hf];simp [freeI]
  ·by_cases he:(rget d ⟨[],[]⟩ i).2=0
   ·have hb:((rget d ⟨[],[]⟩ i).2 !=0)=false:=by simpa using he
    have hwn:IntKind.i64.wrap ((rget d p i).1+(rget d ⟨[],[]⟩ i).1)=(rget d p i).1+(rget d ⟨[],[]⟩ i).1:=zg (by omega) (by omega);refine' walkX (zah hc1 ht1 hb hwn) (za zk <| zb _);exact ⟨⟨(2,(rget d p i).1+(rget d ⟨[],[]⟩ i).1),.inr (.inr ⟨rfl,he1,he,rfl⟩)⟩,by simp only [AS.le,leT,leH,zf,AsgK,AV.le,AV.leL,AObj.le,inH,idsT,idsH,AV.ids,AV.idsL,AV.idsR,AObj.ids,lk,hget,go_sem,aeq,aeq.aeqF,simprocAttr,hw2]<;>and_intros<;>rfl,by simp⟩
   ·have hb:((rget d ⟨[],[]⟩ i).2 !=0)=true:=by simpa using he
    rw [if_neg (by rw [he1];decide),if_pos (by simpa using he)] at hf;have hpr:(xs++ [[.d (.int .i64 0),.d (.int .i64 (rget d ⟨[],[]⟩ i).2)]])<+:(freeL d p g.host.toNat 0).map freeI:=⟨[],by rw [<-hf];simp [freeI]⟩
    refine' walkX (zB hc1 ht1 hb) (za zk <| zb _);rintro zs rfl;rw [<-hf];simp [freeI]
  ·rw [if_neg (by rw [he1];decide),if_neg (by rw [he2];decide)] at hf;by_cases hz1:(rget d p i).1=0/\(rget d ⟨[],[]⟩ i).1=0
   ·have hb:((rget d p i).1+(rget d ⟨[],[]⟩ i).1==0)=true:=by rw [beq_iff_eq];omega
    rw [if_pos hz1] at hf;have hpr:(xs++ [[.d (.int .i64 i),.d (.int .i64 0)]])<+:(freeL d p g.host.toNat 0).map freeI:=⟨(freeL d p (g.host.toNat - (i+1)) (i+1)).map freeI,by rw [<-hf];simp [freeI]⟩
    refine' walkX (zn hc2 hb) (za zk <| zb _);exact ⟨⟨(i+1,xs++ [freeI (i,0)]),by show ((i+1:Nat):Int)<=_;omega,by rw [<-hf];simp [freeI]⟩,by simp only [AS.le,leT,leH,zf,AsgK,AV.le,AV.leL,AObj.le,inH,idsT,idsH,AV.ids,AV.idsL,AV.idsR,AObj.ids,lk,hget,go_sem,aeq,aeq.aeqF,simprocAttr,hwi,freeI],by simp;omega⟩
   ·have hb:((rget d p i).1+(rget d ⟨[],[]⟩ i).1==0)=false:=by rw [beq_eq_false_iff_ne];omega
    rw [if_neg hz1] at hf;refine' walkX (zn hc2 hb) (za zk <| zb _);exact ⟨⟨(i+1,xs),by show ((i+1:Nat):Int)<=_;omega,by rw [<-hf];simp⟩,lew,by simp;omega⟩
 ·have hcmp:decide ((i:Int)<g.host)=false:=decide_eq_false hlt;refine' walkX hcmp (za zk <| zb _);rintro zs rfl;rw [<-hf,show g.host.toNat - i=0 by omega];simp [freeL]
theorem zvx (d:Disk) (p:Plan) (g:Geom) (hp:DP d p/\g.host<=1000000):AC 119 [diskA d,planA p,geomA g] (.tup [.d (.int .i64 (rfind d p g).1),.d (.int .i64 (rfind d p g).2)]):=by
 obtain ⟨h,hg⟩:=hp;refine fbod Tryz.func119 Tryz.ntmps119 (λbase=>?_);refine' walkR fx (za zfW <| zb _);have hrf:rfind d p g=(freeL d p g.host.toNat 0).headD (0,17):=zi6 d p _ _;obtain ⟨I,hI⟩:∃I:List (List AV)->AHeap×Option (List (List AV)),I=λxs=>([(4,.var [.d (.int .i64 17)]),(3,.var [.d (.int .i64 0)]),(2,.var [.d (.int .i64 g.guest),.d (.int .i64 g.host)]),(1,(.var [.d (.sl 1 (p.targets.map intD)),.d (.sl 1 (p.texts.map strD))])),(0,(.var [.d (.str d.data),.d (.sl 2 (d.cache.map putD)),.d (.int .i64 d.fuse),.d (.bool d.off),.d (.sl 1 (d.bad.map intD))]))],some []):=⟨_,rfl⟩
 obtain ⟨G,hG⟩:∃G:List (List AV)->Prop,G=λxs=>(xs≠ []->False):=⟨_,rfl⟩
 obtain ⟨J,hJ⟩:∃J:Code->AHeap->Option (List (List AV))->Prop,J=λc h gg=>c= .exit 0/\gg=some []/\h= [(4,.var [.d (.int .i64 (rfind d p g).2)]),(3,.var [.d (.int .i64 (rfind d p g).1)]),(2,.var [.d (.int .i64 g.guest),.d (.int .i64 g.host)]),(1,(.var [.d (.sl 1 (p.targets.map intD)),.d (.sl 1 (p.texts.map strD))])),(0,(.var [.d (.str d.data),.d (.sl 2 (d.cache.map putD)),.d (.int .i64 d.fuse),.d (.bool d.off),.d (.sl 1 (d.bad.map intD))]))]:=⟨_,rfl⟩
 refine zbk 100 G I J (zoq d p g h hg) (by simp only [go_sem,aeq,aeq.aeqF,simprocAttr]) rfl (zJ rfl) (by simp [cxOf,cxY]) rfl (by rw [hG];first|trivial|rfl|simp) (by rw [hI];simp only [AS.le,leT,leH,zf,AsgK,AV.le,AV.leL,AObj.le,inH,idsT,idsH,AV.ids,AV.idsL,AV.idsR,AObj.ids,lk,hget,go_sem,aeq,aeq.aeqF,simprocAttr]<;>simp [AV.leL,AV.le]) (by rw [hI];simp only [AS.le,leT,leH,zf,AsgK,AV.le,AV.leL,AObj.le,inH,idsT,idsH,AV.ids,AV.idsL,AV.idsR,AObj.ids,lk,hget,go_sem,aeq,aeq.aeqF,simprocAttr]<;>simp) (by rw [hI]<;>rfl) (by intro x hx;obtain ⟨q,_,rfl⟩:=List.mem_map.1 hx;rfl) (by intro t ht;simp at ht;first|(rcases ht with rfl|rfl<;>simp [cxOf,cxY]<;>done)|(subst ht;simp [cxOf,cxY])) ?_ ?_ ?_
 ·intro xs x hpre hgd l1 r1;rw [hG] at hgd;obtain rfl:xs= []:=Classical.byContradiction hgd;obtain ⟨ys,⟨a,e⟩,zs,hys,rfl,hzl⟩:=zcS hpre;have hys0:ys= []:=by cases ys with|nil=>rfl|cons q r=>simp at hys
  subst hys0;have hfe:rfind d p g=(a,e):=by rw [hrf,hzl];rfl
  simp only [freeI];refine aw_le ⟨[(14,true,.d (.int .i64 a)),(15,true,.d (.int .i64 e)),(8,true,.vp 3 0),(9,true,.vp 4 0)],[(4,.var [.d (.int .i64 17)]),(3,.var [.d (.int .i64 0)]),(2,.var [.d (.int .i64 g.guest),.d (.int .i64 g.host)]),(1,(.var [.d (.sl 1 (p.targets.map intD)),.d (.sl 1 (p.texts.map strD))])),(0,(.var [.d (.str d.data),.d (.sl 2 (d.cache.map putD)),.d (.int .i64 d.fuse),.d (.bool d.off),.d (.sl 1 (d.bad.map intD))]))],some []⟩ (by rw [hI];simp only [AS.le,leT,leH,zf,AsgK,AV.le,AV.leL,AObj.le,inH,idsT,idsH,AV.ids,AV.idsL,AV.idsR,AObj.ids,lk,hget,go_sem,aeq,aeq.aeqF,simprocAttr]) ?_;refine' walkR hI (za zfW <| zb _);rw [hJ,hfe];exact ⟨rfl,rfl,rfl⟩
 ·intro hgd;rw [hG] at hgd;have hgd:=Classical.byContradiction hgd;rw [hI];refine' walkR fx (za zfW <| zb _);have hfl:freeL d p g.host.toNat 0= []:=by simpa using hgd
  rw [hrf,hfl];rfl
 ·rw [hJ];rintro c h3 g3 ⟨rfl,rfl,rfl⟩;refine' walkR fx (za zfW <| zb _)
@[go_sem] noncomputable def zq4:Ent Tryz.prog 119:= .m3 zu zw zeo zvx
theorem zvy (d:Disk) (p:Plan) (g:Geom) (hp:DP d p/\g.host<=1000000):AC 40 [diskA d,planA p,geomA g] (.tup [planA (rtake d p g).1,.d (.int .i64 (rtake d p g).2.1),.d (.int .i64 (rtake d p g).2.2)]):=by obtain ⟨h,hg⟩:=hp;refine fbod Tryz.func40 Tryz.ntmps40 (λbase=>?_);refine' walkW fx (za zq4 <| za zW <| zb _);all_goals simp_all [rtake]
@[go_sem] noncomputable def zD:Ent Tryz.prog 40:= .m3 zu zw zeo zvy
open Go Go.Proofs
structure Root where
 l1:Int
 next:Int
 deriving DecidableEq
def rootA (r:Root):AV:= .agg [.d (.int .i64 r.l1),.d (.int .u32 r.next)]
attribute [go_sem] rootA
theorem zvg (r:Root):Root.mk r.l1 r.next=r:=rfl
noncomputable def ziW:PT Root:=aggT (consL (intT .i64) (consL (intT .u32) nilL)) (λp=>⟨p.1,p.2.1⟩) (λx=>(x.l1,x.next,())) (λ_=>rfl)
attribute [go_sem] ziW
attribute [go_sem] zvg
def magicR:Txt:= [67,79,70,82]
def zaQ (r:Root):Txt:=magicR++putN r.l1.toNat 2++putN r.next.toNat 4
def zbl (r:Root):Txt:=padR (zaQ r++zfg (sumOf 0 (zaQ r)))
def zb5 (s:Txt):Root:=⟨((takeN ((s.drop 4).take 2):Nat):Int),((takeN ((s.drop 6).take 4):Nat):Int)⟩
def rootT (s:Txt):Root×Int:=
 if s.take 4≠magicR then (⟨0,0⟩,14)
 else if zfg (sumOf 0 (s.take 10))≠(s.take 14).drop 10 then (⟨0,0⟩,15)
 else if zG (zb5 s).l1=false\/zbl (zb5 s)≠s then (⟨0,0⟩,14)
 else (zb5 s,0)
def ze (d:Disk) (p:Plan):Root×Int:=if (plook d p 1).2≠0 then (⟨0,0⟩,(plook d p 1).2) else rootT (plook d p 1).1
def zak (p:Plan) (r:Root):Plan×Int:=if zG r.l1=false then (p,10) else pset p 1 (zbl r)
theorem zfs (r:Root):(zaQ r).length=10:=by
 rw [zaQ,List.length_append,List.length_append,zK,zK];rfl
theorem zfR (s:Txt):0<=(zb5 s).l1/\(zb5 s).l1<=65535/\0<=(zb5 s).next/\(zb5 s).next<=4294967295:=by have h1:=zcg (l:=(s.drop 4).take 2) (i:=2) (by rw [List.length_take];omega);have h2:=zcg (l:=(s.drop 6).take 4) (i:=4) (by rw [List.length_take];omega);simp only [zb5];omega
theorem zln (k:Int) (_:True):AC 69 [.d (.int .i64 k)] (.d (.bool (zG k))):=by refine bod Tryz.func69 Tryz.ntmps69 (λbase=>?_);refine' zc fx;rfl
@[go_sem] noncomputable def zaX:Ent Tryz.prog 69:= .m1 (intT .i64) zln
theorem zfS {x:Int} (h0:0<=x) (h1:x<=4294967295):IntKind.u32.wrap x=x:=by rw [IntKind.wrap_u32];omega
theorem zqG (t:Root) (hp:0<=t.l1/\t.l1<=65535/\0<=t.next/\t.next<=4294967295):AC 70 [rootA t] (.d (.str (zbl t))):=by obtain ⟨h0,h1,h2,h3⟩:=hp;refine fbod Tryz.func70 Tryz.ntmps70 (λbase=>?_);have hw1:IntKind.u64.wrap t.l1=t.l1:=zad h0 (by omega);have hw2:IntKind.u64.wrap t.next=t.next:=zad h2 (by omega);have hl1:=zK t.l1.toNat 2;have hl2:=zK t.next.toNat 4;have hhd:(67:UInt8)::79::70::82::putN t.l1.toNat 2++putN t.next.toNat 4=zaQ t:=rfl;have hhl:=zfs t;have hs:=zgn 0 (zaQ t) (by omega) (by omega);have hbl:=zcU (sumOf 0 (zaQ t));refine' walkW (zL hw1 hw2 @ziU @zkn @List.length_cons.{0} (zL @List.length_nil.{0} hl1 hl2 hhd hhl (zn hbl @List.length_append.{0}))) (za zat <| za zby <| za zaz <| za zez <| zb _);rfl
@[go_sem] noncomputable def zee:Ent Tryz.prog 70:= .m1 ziW zqG
theorem zsQ (d:Disk) (p:Plan) (h:DP d p):AC 20 [diskA d,planA p] (.tup [rootA (ze d p).1,.d (.int .i64 (ze d p).2)]):=by
 refine fbod Tryz.func20 Tryz.ntmps20 (λbase=>?_);have h1:=h.dok;have h2:=h.pok;have h3:=h.plen;by_cases he:(plook d p 1).2=0
 ·have hb:((plook d p 1).2 !=0)=false:=by simpa using he
  have h64:=zch h he;have hrg:ze d p=rootT (plook d p 1).1:=by rw [ze,if_neg (by simpa using he)]
  obtain ⟨S,hS⟩:∃S,S=(plook d p 1).1:=⟨_,rfl⟩
  rw [<-hS] at h64 hrg;have hr:=zfR S;have htk:List.take S.length S=S:=List.take_length;have ht2:=zdl (s:=S.drop 4) (z:=2) 2 rfl (by omega) (by omega) (by rw [List.length_drop];omega);have ht4:=zdl (s:=S.drop 6) (z:=4) 4 rfl (by omega) (by omega) (by rw [List.length_drop];omega);have hwl:IntKind.i64.wrap (zb5 S).l1=(zb5 S).l1:=zg (by omega) (by omega);have hwn:IntKind.u32.wrap (zb5 S).next=(zb5 S).next:=zfS (by omega) (by omega);simp only [zb5] at hwl hwn hr;have hL1:(List.take 10 S).length<=64:=by rw [List.length_take];omega
  have hL2:(List.drop 4 S).length<=64:=by rw [List.length_drop];omega
  have hL3:(List.drop 6 S).length<=64:=by rw [List.length_drop];omega
  have hsr:=zgn 0 (S.take 10) (by omega) (by omega);refine' walkW (zL hS.symm hb htk ht2 ht4 (zn hwl hwn)) (za zA <| za zby <| za zaz <| za zV <| za zaX <| za zee <| zb _);all_goals (rw [hrg,rootT];clear ht2 ht4 hwl hwn htk;simp_all [zb5,magicR];done)
 ·have hb:((plook d p 1).2 !=0)=true:=by simpa using he
  refine' walkW hb (za zA <| za zby <| za zaz <| za zV <| za zaX <| za zee <| zb _);rw [ze,if_pos he]
@[go_sem] noncomputable def zbe:Ent Tryz.prog 20:= .m2 zu zw zsQ
theorem zsR (p:Plan) (t:Root) (hp:pfit p=true/\0<=t.next/\t.next<=4294967295):AC 52 [planA p,rootA t] (.tup [planA (zak p t).1,.d (.int .i64 (zak p t).2)]):=by
 obtain ⟨hp,h2,h3⟩:=hp;refine fbod Tryz.func52 Tryz.ntmps52 (λbase=>?_);obtain ⟨hl,h24,h64⟩:=zay hp;have hpo:PlanOk p:=⟨by omega,by omega⟩
 by_cases hk:zG t.l1=true
 ·obtain ⟨hk0,hk1⟩:=hostOk_iff.1 hk;refine' walkW hk (za zaX <| za zee <| za za2 <| zb _);rw [zak,if_neg (by rw [hk];exact λh=>by cases h)]
 ·have hk:zG t.l1=false:=by simpa using hk
  refine' walkW hk (za zaX <| za zee <| za za2 <| zb _);rw [zak,if_pos hk]
@[go_sem] noncomputable def zcl:Ent Tryz.prog 52:= .m2 zw ziW zsR
theorem zqH (k:Int) (_:True):AC 126 [.d (.int .i64 k)] (.d (.bool (!zG k))):=by refine bod Tryz.func126 Tryz.ntmps126 (λbase=>?_);refine' zc fx;rw [zcu]
@[go_sem] noncomputable def zcw:Ent Tryz.prog 126:= .m1 (intT .i64) zqH
theorem zqI (t:Root) (hp:0<=t.l1/\t.l1<=65535/\0<=t.next/\t.next<=4294967295):AC 128 [rootA t] (.d (.str (zbl t))):=by obtain ⟨h0,h1,h2,h3⟩:=hp;refine fbod Tryz.func128 Tryz.ntmps128 (λbase=>?_);have hw1:IntKind.u64.wrap t.l1=t.l1:=zad h0 (by omega);have hw2:IntKind.u64.wrap t.next=t.next:=zad h2 (by omega);have hl1:=zK t.l1.toNat 2;have hl2:=zK t.next.toNat 4;have hhd:(67:UInt8)::79::70::82::putN t.l1.toNat 2++putN t.next.toNat 4=zaQ t:=rfl;have hhl:=zfs t;have hbl:=zcU (sumOf 0 (zaQ t));refine' walkW (zL hw1 hw2 @ziU @zkn @List.length_cons.{0} (zL @List.length_nil.{0} hl1 hl2 hhd hhl (zn hbl @List.length_append.{0}))) (za zda <| za zdF <| za zbV <| za zgH <| zb _);rfl
@[go_sem] noncomputable def zef:Ent Tryz.prog 128:= .m1 ziW zqI
theorem zqJ (s:Txt) (at_ size:Int) (hp:0<=at_/\at_<=s.length/\s.length<=9223372036854775807):AC 179 [.d (.str s),.d (.int .i64 at_),.d (.int .i64 size)] (.d (.int .u64 (takeS (s.drop at_.toNat) size).1)):=by
 obtain ⟨h0,h1,hs⟩:=hp;refine fbod Tryz.func179 Tryz.ntmps179 (λbase=>?_);have htk:List.take s.length s=s:=List.take_length;have hL2:(List.drop at_.toNat s).length<=9223372036854775807:=by rw [List.length_drop];omega
 refine' walkW htk (za zcc <| zb _)
@[go_sem] noncomputable def zft:Ent Tryz.prog 179:= .m3 strT (intT .i64) (intT .i64) zqJ
theorem zqK (d:Disk) (p:Plan) (h:DP d p):AC 110 [diskA d,planA p] (.tup [rootA (ze d p).1,.d (.int .i64 (ze d p).2)]):=by
 refine fbod Tryz.func110 Tryz.ntmps110 (λbase=>?_);have h1:=h.dok;have h2:=h.pok;have h3:=h.plen;by_cases he:(plook d p 1).2=0
 ·have hb:((plook d p 1).2 !=0)=false:=by simpa using he
  have h64:=zch h he;have hrg:ze d p=rootT (plook d p 1).1:=by rw [ze,if_neg (by simpa using he)]
  obtain ⟨S,hS⟩:∃S,S=(plook d p 1).1:=⟨_,rfl⟩
  rw [<-hS] at h64 hrg;have hr:=zfR S;have htk:List.take S.length S=S:=List.take_length;have ht2:=zdl (s:=S.drop 4) (z:=2) 2 rfl (by omega) (by omega) (by rw [List.length_drop];omega);have ht4:=zdl (s:=S.drop 6) (z:=4) 4 rfl (by omega) (by omega) (by rw [List.length_drop];omega);have hwl:IntKind.i64.wrap (zb5 S).l1=(zb5 S).l1:=zg (by omega) (by omega);have hwn:IntKind.u32.wrap (zb5 S).next=(zb5 S).next:=zfS (by omega) (by omega);simp only [zb5] at hwl hwn hr;have hL1:(List.take 10 S).length<=64:=by rw [List.length_take];omega
  have hpx:List.isPrefixOf [67,79,70,82] S=(S.take 4== [67,79,70,82]):=by rw [Bool.eq_iff_iff,List.isPrefixOf_iff_prefix,List.prefix_iff_eq_take,beq_iff_eq];exact ⟨λh=>h.symm,λh=>h.symm⟩
  refine' walkW (zL hS.symm hb htk ht2 ht4 (zB hwl hwn hpx)) (za z2 <| za zdF <| za zbV <| za zft <| za zcw <| za zef <| za zgc <| zb _);all_goals (rw [hrg,rootT];clear ht2 ht4 hwl hwn htk hpx;simp_all [zb5,magicR];done)
 ·have hb:((plook d p 1).2 !=0)=true:=by simpa using he
  refine' walkW hb (za z2 <| za zdF <| za zbV <| za zft <| za zcw <| za zef <| za zgc <| zb _);rw [ze,if_pos he]
@[go_sem] noncomputable def zo:Ent Tryz.prog 110:= .m2 zu zw zqK
end Go.Aw
