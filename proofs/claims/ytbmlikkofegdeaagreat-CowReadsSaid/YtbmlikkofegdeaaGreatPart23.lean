/-
  Parts of the proof: SuperA, PlanA, PlanB, PlanC, PlanD, PlanE, PlanF, PlanG, TxnA (short names; the readable texts lie in the repo, under wip).
-/
import Derived.Test.YtbmlikkofegdeaaGreatPart22
import Derived.Test.YtbmlikkofegdeaaGreatPart17
import Derived.Test.YtbmlikkofegdeaaGreatPart16
import Derived.Test.YtbmlikkofegdeaaGreatPart19
set_option maxRecDepth 100000
set_option maxHeartbeats 2000000
set_option linter.unusedSimpArgs false
set_option linter.unusedVariables false
namespace Go.Aw
open Go Go.Proofs
def zek (g h:Int):Bool:=decide (1≤g)&&decide (g≤64)&&decide (8≤h)&&decide (h≤256)
def zgt (g h:Int):Int:=if zek g h then 96+2*h else 0
theorem geo_iff {g h:Int} :zek g h=true↔1≤g∧g≤64∧8≤h∧h≤256:=by
 simp [zek,and_assoc]
theorem zrz (k:Int) (hp:0≤k∧k≤1000000):AC 43 [.d (.int .i64 k)] (.d (.int .i64 (96+2*k))):=by
 obtain ⟨h0,h1⟩:=hp
 refine bod Tryz.func43 Tryz.ntmps43 (fun base=>?_)
 have hm:IntKind.i64.wrap (2*k)=2*k:=zi (by omega) (by omega)
 have hm2:IntKind.i64.wrap (96+2*k)=96+2*k:=zi (by omega) (by omega)
 refine' zf (zE hm hm2)
@[go_sem] noncomputable def zji:Ent Tryz.prog 43:= .m1 (intT .i64) zrz
theorem at_ok (k:Int) (hp:0≤k∧k≤1000000):AC 76 [.d (.int .i64 k)] (.d (.int .i64 (96+2*k))):=by
 obtain ⟨h0,h1⟩:=hp
 refine bod Tryz.func76 Tryz.ntmps76 (fun base=>?_)
 have hm:IntKind.i64.wrap (2*k)=2*k:=zi (by omega) (by omega)
 have hm2:IntKind.i64.wrap (96+2*k)=96+2*k:=zi (by omega) (by omega)
 refine' zf (zE hm hm2)
@[go_sem] noncomputable def zbf:Ent Tryz.prog 76:= .m1 (intT .i64) at_ok
theorem zpM (k:Int) (hp:0≤k∧k≤1000000):AC 88 [.d (.int .i64 k)] (.tup [.d (.int .i64 (87+k / 32)),.d (.int .i64 (2*(k % 32)))]):=by
 obtain ⟨h0,h1⟩:=hp
 refine bod Tryz.func88 Tryz.ntmps88 (fun base=>?_)
 have hm:IntKind.i64.wrap (k.tdiv 32)=k / 32:=by rw [Int.tdiv_eq_ediv_of_nonneg h0,zi (by omega) (by omega)]
 have hm2:IntKind.i64.wrap (87+k / 32)=87+k / 32:=zi (by omega) (by omega)
 have hm3:k.tmod 32=k % 32:=Int.tmod_eq_emod_of_nonneg h0
 have hm4:IntKind.i64.wrap (2*(k % 32))=2*(k % 32):=zi (by omega) (by omega)
 refine' zf (za4 hm hm2 hm3 hm4)
@[go_sem] noncomputable def zcc:Ent Tryz.prog 88:= .m1 (intT .i64) zpM
theorem zrA {k:Int} (h0:0≤k):ishr .i64 k 5=k / 32:=by
 unfold ishr
 rw [show min ((5:Int).toNat) IntKind.i64.bits=5 from rfl,Int.fdiv_eq_ediv_of_nonneg _ (by decide)]
 rfl
theorem zrB {k:Int} (h0:0≤k) (h1:k≤1000000):ibits .and .i64 k 31=k % 32:=by
 obtain ⟨m,rfl⟩:∃m:Nat,k=m:=⟨k.toNat,by omega⟩
 show IntKind.i64.wrap ((BitVec.ofInt 64 (m:Int)&&& BitVec.ofInt 64 31).toNat:Int)=_
 rw [BitVec.ofInt_natCast,show BitVec.ofInt 64 31=BitVec.ofNat 64 31 from rfl,BitVec.toNat_and,BitVec.toNat_ofNat,BitVec.toNat_ofNat,Nat.mod_eq_of_lt (by omega),Nat.mod_eq_of_lt (by omega),show (31:Nat)=2 ^ 5 - 1 from rfl,Nat.and_two_pow_sub_one_eq_mod,zi (by omega) (by omega)]
 omega
theorem zsJ (k:Int) (hp:0≤k∧k≤1000000):AC 141 [.d (.int .i64 k)] (.tup [.d (.int .i64 (87+k / 32)),.d (.int .i64 (2*(k % 32)))]):=by
 obtain ⟨h0,h1⟩:=hp
 refine bod Tryz.func141 Tryz.ntmps141 (fun base=>?_)
 have hm:=zrA h0
 have hm2:IntKind.i64.wrap (87+k / 32)=87+k / 32:=zi (by omega) (by omega)
 have hm3:=zrB h0 h1
 have hm4:IntKind.i64.wrap (k % 32*2)=2*(k % 32):=by rw [zi (by omega) (by omega)];omega
 refine' zf (za4 hm hm2 hm3 hm4)
@[go_sem] noncomputable def zd5:Ent Tryz.prog 141:= .m1 (intT .i64) zsJ
theorem zpN (g:Int) (m:Int):ACall Tryz.prog 58 0 [.agg [.d (.int .i64 g),.d (.int .i64 m)]] [] (fun r _=>r= .d (.bool (zek g m))):=by
 refine bod Tryz.func58 Tryz.ntmps58 (fun base=>?_)
 refine' zf fx
 rfl
@[go_sem] noncomputable def zcW:Ent Tryz.prog 58:= .ofL (consL (aggT (consL (intT .i64) (consL (intT .i64) nilL)) (fun p=>p) (fun p=>p) (fun _=>rfl)) nilL) (fun ((g,m,_),_)=>True) (fun ((g,m,_),_)=> .d (.bool (zek g m))) (fun ((g,m,_),_) hp=>⟨rfl,zpN g m⟩)
theorem zpO (g:Int) (m:Int):ACall Tryz.prog 61 0 [.agg [.d (.int .i64 g),.d (.int .i64 m)]] [] (fun r _=>r= .d (.int .i64 (zgt g m))):=by
 refine bod Tryz.func61 Tryz.ntmps61 (fun base=>?_)
 refine' walkW fx (za zcW <| zb _)
 ·have hc:zek g m=false:=by simpa using hc
  rw [zgt,if_neg (by rw [hc];exact Bool.false_ne_true)]
 ·have hc:zek g m=true:=by simpa using hc
  have hg:=geo_iff.1 hc
  rw [zgt,if_pos hc,zi (n:=2*m) (by omega) (by omega),zi (by omega) (by omega)]
@[go_sem] noncomputable def zd6:Ent Tryz.prog 61:= .ofL (consL (aggT (consL (intT .i64) (consL (intT .i64) nilL)) (fun p=>p) (fun p=>p) (fun _=>rfl)) nilL) (fun ((g,m,_),_)=>True) (fun ((g,m,_),_)=> .d (.int .i64 (zgt g m))) (fun ((g,m,_),_) hp=>⟨rfl,zpO g m⟩)
open Go Go.Proofs
structure Plan where
 targets:List Int
 texts:List Txt
 deriving DecidableEq
def planA (p:Plan):AV:= .agg [.d (.sl 1 (p.targets.map intD)),.d (.sl 1 (p.texts.map strD))]
def planC (p:Plan):List AV:= [.d (.sl 1 (p.targets.map intD)),.d (.sl 1 (p.texts.map strD))]
attribute [go_sem] planA planC
theorem zpP (p:Plan):Plan.mk p.targets p.texts=p:=rfl
noncomputable def zH:PT Plan:=aggT (consL (slT 1 intD zbP) (consL (slT 1 strD zeD) nilL)) (fun p=>⟨p.1,p.2.1⟩) (fun x=>(x.targets,x.texts,())) (fun _=>rfl)
attribute [go_sem] zH
noncomputable def znX:PT Plan:=dpT (consL (slT 1 intD zbP) (consL (slT 1 strD zeD) nilL)) (fun p=>⟨p.1,p.2.1⟩) (fun x=>(x.targets,x.texts,())) (fun _=>rfl)
attribute [go_sem] znX
attribute [go_sem] zpP
structure PlanOk (p:Plan):Prop where
 targets:p.targets.length≤9223372036854775807
 texts:p.texts.length≤9223372036854775807
def secOk (at_:Int):Bool:=decide (0≤at_)&&decide (at_<1024)
def pfind (l:List Int) (at_:Int):Int:=idxP (fun x=>x==at_) l 0
def pfitL:List Int→List Int→List Txt→Bool
 |_,[],_=>true
 |seen,t::r,s::q=>secOk t&& !seen.contains t&&((s.length:Int)==64)&&pfitL (seen++ [t]) r q
 |_,_::_,[]=>true
def pfit (p:Plan):Bool:=decide (p.targets.length=p.texts.length)&&decide (p.targets.length≤24)&&pfitL [] p.targets p.texts
def plook (d:Disk) (p:Plan) (at_:Int):Txt×Int:=
 if 0≤pfind p.targets at_ then (p.texts.getD (pfind p.targets at_).toNat [],0) else dread d at_
def pset (p:Plan) (at_:Int) (s:Txt):Plan×Int:=
 if !secOk at_ then (p,10) else if (s.length:Int)≠64 then (p,11)
 else if 0≤pfind p.targets at_ then (⟨p.targets,p.texts.set (pfind p.targets at_).toNat s⟩,0)
 else if 24≤(p.targets.length:Int) then (p,16) else (⟨p.targets++ [at_],p.texts++ [s]⟩,0)
def zbT (d:Disk) (p:Plan) (at_:Int) (off:Int) (s:Txt):Plan×Int:=
 if (plook d p at_).2≠0 then (p,(plook d p at_).2)
 else if (overS (plook d p at_).1 off s).2≠0 then (p,(overS (plook d p at_).1 off s).2)
 else pset p at_ (overS (plook d p at_).1 off s).1
def layL (d:Disk):List (Int×Txt)→Disk×Int
 | []=>(d,0)
 |q::r=>if (zD d q.1 q.2).2≠0 then zD d q.1 q.2 else layL (zD d q.1 q.2).1 r
def play (d:Disk) (p:Plan):Disk×Int:=layL d (p.targets.zip p.texts)
theorem zgu {d:Disk} (h:DiskOk d) (at_:Int) (s:Txt):DiskOk (zD d at_ s).1:=by
 unfold zD
 repeat' split
 all_goals first|exact h|skip
 ·exact ⟨h.data,h.cache,h.bad,h.fuse0,h.fuse1⟩
 ·rename_i h6
  exact zlu ⟨h.data,by simp only [List.length_append,List.length_singleton];omega,h.bad,h.fuse0,h.fuse1⟩
theorem zlz {d:Disk} {at_:Int} (hf:d.cache.all (putOk d)=true) (ht:there d at_=true):(sees d at_).length=64:=by
 obtain ⟨h0,h1⟩:=there_iff.1 ht
 unfold sees
 split
 ·rename_i q hq
  have hm:=List.mem_of_find?_eq_some hq
  have:=List.all_eq_true.1 hf q (List.mem_reverse.1 hm)
  rw [putOk,Bool.and_eq_true] at this
  have:=eq_of_beq this.2
  omega
 ·rw [List.length_take,List.length_drop];omega
theorem zcX {d:Disk} {at_:Int} (hf:d.cache.all (putOk d)=true):(dread d at_).1.length≤64:=by
 unfold dread
 repeat' split
 all_goals first|(simp;done)|skip
 rw [zlz hf (by simp_all)]
 omega
theorem zjj:∀ (t:List Int) (s:List Txt) (seen:List Int),pfitL seen t s=true→t.length=s.length→∀x∈s,x.length=64
 | [],s,seen,_,hl=>by
  have:s= []:=List.length_eq_zero_iff.1 hl.symm
  subst this
  simp
 |t::r,[],seen,_,hl=>by simp at hl
 |t::r,s::q,seen,h,hl=>by
  rw [pfitL] at h
  simp only [Bool.and_eq_true] at h
  intro x hx
  rcases List.mem_cons.1 hx with rfl|hx
  ·have:=eq_of_beq h.1.2;omega
  ·exact zjj r q _ h.2 (by simpa using hl) x hx
theorem zau {p:Plan} (h:pfit p=true):p.targets.length=p.texts.length∧p.targets.length≤24∧∀x∈p.texts,x.length=64:=by
 simp only [pfit,Bool.and_eq_true,decide_eq_true_eq] at h
 exact ⟨h.1.1,h.1.2,zjj _ _ _ h.2 h.1.1⟩
theorem zpQ {l:List Txt} {n k:Nat} (h:∀x∈l,x.length=n):(l.getD k []).length≤n:=by
 rw [List.getD_eq_getElem?_getD]
 rcases hk:l[k]? with _|x
 ·simp
 ·rw [Option.getD_some,h x (List.mem_of_getElem? hk)]
  exact Nat.le_refl _
theorem zjk {d:Disk} {p:Plan} {at_:Int} (hf:d.cache.all (putOk d)=true) (hp:pfit p=true):(plook d p at_).1.length≤64:=by
 unfold plook
 split
 ·exact zpQ (zau hp).2.2
 ·exact zcX hf
theorem zgv {α:Type} (p:α→Bool):∀ (l:List α) (k:Nat),idxP p l k= -1∨((k:Int)≤idxP p l k∧idxP p l k<((k+l.length:Nat):Int))
 | [],k=> .inl rfl
 | q::l,k=>by
  rw [idxP]
  split
  ·exact .inr ⟨Int.le_refl _,by simp;omega⟩
  ·rcases zgv p l (k+1) with h|⟨h1,h2⟩
   ·exact .inl h
   ·exact .inr ⟨by omega,by simp only [List.length_cons];omega⟩
theorem zap (l:List Int) (at_:Int):pfind l at_= -1∨∃k:Nat,pfind l at_=k∧k<l.length:=by
 rcases zgv (fun x=>x==at_) l 0 with h|⟨h1,h2⟩
 ·exact .inl h
 ·exact .inr ⟨(pfind l at_).toNat,by unfold pfind;omega,by unfold pfind;omega⟩
theorem zkq (at_:Int) (_:True):AC 22 [.d (.int .i64 at_)] (.d (.bool (secOk at_))):=by
 refine bod Tryz.func22 Tryz.ntmps22 (fun base=>?_)
 refine' zf fx
 rfl
@[go_sem] noncomputable def zeF:Ent Tryz.prog 22:= .m1 (intT .i64) zkq
theorem znY (p:Plan) (at_:Int) (hp:PlanOk p):AC 23 [planA p,.d (.int .i64 at_)] (.d (.int .i64 (pfind p.targets at_))):=by
 refine bod Tryz.func23 Tryz.ntmps23 (fun base=>?_)
 refine' zf fx
 have ht:=hp.targets
 refine zC (fun q:Idst (fun x=>x==at_) p.targets=>⟨[(1,true,.d (.int .i64 at_)),(2,true,.vp 0 0),(5,true,.d (.int .i64 q.1))],[(0,.var [.d (.sl 1 (p.targets.map intD)),.d (.sl 1 (p.texts.map strD))])],some []⟩) (fun q=>p.targets.length - q.1) ⟨0,Nat.zero_le _,rfl⟩ le1 (fun q=>?_)
 obtain ⟨i,hi,hf⟩:=q
 simp only at hi hf ⊢
 rcases zas intD p.targets i hi with ⟨m,hq,hlt,hcmp,hrow,hdr,htk⟩|⟨hend,hcmp⟩
 ·simp only [intD] at hrow
  have hwi:=zG (i:=i) (by omega)
  refine' zf (zE hcmp hrow)
  ·rw [pfind,hf,hdr,idxP,if_pos hc]
  ·exact ⟨⟨i+1,by omega,by rw [hf,hdr,idxP,if_neg (by rw [hc];exact Bool.false_ne_true)]⟩,lew,by simp;omega⟩
 ·refine' zf hcmp
  rw [pfind,hf,hend,List.drop_length]
  rfl
@[go_sem] noncomputable def zdj:Ent Tryz.prog 23:= .m2 zH (intT .i64) znY
theorem znZ (d:Disk) (p:Plan) (at_:Int) (hp:DiskOk d∧PlanOk p∧p.targets.length=p.texts.length):AC 50 [diskA d,planA p,.d (.int .i64 at_)] (.tup [.d (.str (plook d p at_).1),.d (.int .i64 (plook d p at_).2)]):=by
 obtain ⟨hd,hp,hl⟩:=hp
 refine bod Tryz.func50 Tryz.ntmps50 (fun base=>?_)
 rcases zap p.targets at_ with hk|⟨k,hk,hkl⟩
 ·refine' walkW hk (za zdj <| za zes <| zb _)
  rw [plook,hk,if_neg (by omega)]
 ·obtain ⟨s,hq⟩:=zaP (l:=p.texts) (i:=k) (by omega)
  have hrow:=zcD (g:=strD) hq
  simp only [strD] at hrow
  have h1:decide ((0:Int)≤(k:Int))=true:=decide_eq_true (by omega)
  have h2:decide ((k:Int)<(p.texts.length:Int))=true:=decide_eq_true (by omega)
  refine' walkW (zdA hk hrow natC h1 h2) (za zdj <| za zes <| zb _)
  rw [plook,hk,if_pos (by omega),Int.toNat_natCast,List.getD_eq_getElem?_getD,hq]
  rfl
@[go_sem] noncomputable def zaE:Ent Tryz.prog 50:= .m3 zv zH (intT .i64) znZ
theorem zd7 {α:Type} (g:α→List D) (l:List α) (x:α) (r:List D) (hr:r=g x) {k:Nat} :(if l.length+1=(l.map g++ [r]).length then AV.d (D.sl k (List.take (l.length+1) (l.map g++ [r]))) else AV.any)=AV.d (.sl k ((l++ [x]).map g)):=by
 have h1:l.length+1=(l.map g++ [r]).length:=by simp
 rw [if_pos h1,List.take_of_length_le (Nat.le_of_eq h1.symm),hr,List.map_append]
 rfl
theorem zlA {k n:Nat} {X:List (List D)} (h:X.length=n):(if n=X.length then AV.d (D.sl k (List.take n X)) else AV.any)=AV.d (.sl k X):=by
 rw [if_pos h.symm,List.take_of_length_le (Nat.le_of_eq h)]
theorem zn0 {l:List Txt} {k:Nat} {s:Txt} (hk:k<l.length):(l.map strD).set k (((l.map strD).getD k []).set 0 (D.str s))=(l.set k s).map strD:=by
 obtain ⟨x,hq⟩:=zaP hk
 rw [zcD (g:=strD) hq,List.map_set]
 rfl
theorem zpR (p:Plan) (at_:Int) (s:Txt) (hp:PlanOk p∧p.targets.length=p.texts.length∧p.targets.length≤24):AC 109 [planA p,.d (.int .i64 at_),.d (.str s)] (.tup [planA (pset p at_ s).1,.d (.int .i64 (pset p at_ s).2)]):=by
 obtain ⟨hp,hl,h24⟩:=hp
 refine fbod Tryz.func109 Tryz.ntmps109 (fun base=>?_)
 rcases zap p.targets at_ with hk|⟨k,hk,hkl⟩
 ·refine' walkW hk (za zeF <| za zdj <| zb _)
  all_goals first|(simp_all [pset];done)|skip
  rw [zd7 intD p.targets at_ [D.int .i64 at_] rfl,zd7 strD p.texts s [D.str s] rfl]
  by_cases h6:24≤(p.targets.length:Int)
  ·exfalso;simp_all;omega
  ·simp_all [pset]
   simp only [if_neg (show ¬(24:Int)≤p.texts.length by omega)]
   simp
 ·have h1:decide ((0:Int)≤(k:Int))=true:=decide_eq_true (by omega)
  refine' walkW (zN hk natC h1) (za zeF <| za zdj <| zb _)
  all_goals first|(simp_all [pset];done)|skip
  rw [zn0 (by omega),zlA (by simp)]
  simp_all [pset]
@[go_sem] noncomputable def ze5:Ent Tryz.prog 109:= .m3 zH (intT .i64) strT zpR
theorem zmq (d:Disk) (p:Plan) (at_ off:Int) (s:Txt) (hp:DiskOk d∧d.cache.all (putOk d)=true∧pfit p=true∧s.length≤9223372036854775807):AC 110 [diskA d,planA p,.d (.int .i64 at_),.d (.int .i64 off),.d (.str s)] (.tup [planA (zbT d p at_ off s).1,.d (.int .i64 (zbT d p at_ off s).2)]):=by
 obtain ⟨hd,hf,hp,hs⟩:=hp
 refine fbod Tryz.func110 Tryz.ntmps110 (fun base=>?_)
 obtain ⟨hl,h24,h64⟩:=zau hp
 have hpo:PlanOk p:=⟨by omega,by omega⟩
 have hb:=zjk (at_:=at_) hf hp
 refine' walkW fx (za zaE <| za zaD <| za ze5 <| zb _)
 all_goals first|(simp_all [zbT];done)|skip
@[go_sem] noncomputable def zbk:Ent Tryz.prog 110:= .m5 zv zH (intT .i64) (intT .i64) strT zmq
open Go Go.Proofs
theorem zpS (d:Disk) (p:Plan) (hp:DiskOk d∧PlanOk p∧p.targets.length=p.texts.length):AC 67 [diskA d,planA p] (.tup [diskA (play d p).1,.d (.int .i64 (play d p).2)]):=by
 obtain ⟨hd,hp,hl⟩:=hp
 refine fbod Tryz.func67 Tryz.ntmps67 (fun base=>?_)
 have h1:=hp.targets
 have h2:=hp.texts
 refine' zf fx
 refine zC (fun q: { q:Nat×Disk // q.1≤p.targets.length∧DiskOk q.2∧play d p=layL q.2 ((p.targets.zip p.texts).drop q.1) } =>⟨[(2,true,.vp 0 0),(3,true,.vp 1 0),(4,true,.vp 2 0),(6,true,.d (.int .i64 q.1.1))],[(2,.var [.d (.str []),.nils 2,.d (.int .i64 0),.d (.bool false),.nils 1]),(1,.var [.d (.sl 1 (p.targets.map intD)),.d (.sl 1 (p.texts.map strD))]),(0,(.var [.d (.str q.1.2.data),.d (.sl 2 (q.1.2.cache.map putD)),.d (.int .i64 q.1.2.fuse),.d (.bool q.1.2.off),.d (.sl 1 (q.1.2.bad.map intD))]))],some []⟩) (fun q=>p.targets.length - q.1.1) ⟨(0,d),Nat.zero_le _,hd,rfl⟩ le1 (fun q=>?_)
 obtain ⟨⟨i,x⟩,hi,hx,hf⟩:=q
 simp only at hi hx hf ⊢
 rcases zas intD p.targets i hi with ⟨m,hq,hlt,hcmp,hrow,hdr,htk⟩|⟨hend,hcmp⟩
 ·obtain ⟨s,hq'⟩:=zaP (l:=p.texts) (i:=i) (by omega)
  have hrow':=zcD (g:=strD) hq'
  simp only [intD] at hrow
  simp only [strD] at hrow'
  have hwi:=zG (i:=i) (by omega)
  have hcmp':decide ((i:Int)<(p.texts.length:Int))=true:=by rw [← hl];exact hcmp
  have hz:(p.targets.zip p.texts)[i]?=some (m,s):=List.getElem?_zip_eq_some.2 ⟨hq,hq'⟩
  rw [zeZ hz,layL] at hf
  have hxo:=zgu hx m s
  refine' walkW (za4 hcmp hcmp' hrow hrow') (za zi7 <| zb _)
  ·have hc:(zD x m s).2≠0:=by simpa using hc
   rw [hf,if_pos hc]
  ·have hc:¬(zD x m s).2≠0:=by simpa using hc
   rw [if_neg hc] at hf
   exact ⟨⟨(i+1,(zD x m s).1),by omega,hxo,hf⟩,lew,by simp;omega⟩
 ·refine' zf hcmp
  rw [hf,List.drop_of_length_le (by rw [List.length_zip];omega)]
  rfl
@[go_sem] noncomputable def zmr:Ent Tryz.prog 67:= .m2 zv zH zpS
open Go Go.Proofs
theorem zkr (at_:Int) (_:True):AC 184 [.d (.int .i64 at_)] (.d (.bool (!secOk at_))):=by
 refine bod Tryz.func184 Tryz.ntmps184 (fun base=>?_)
 refine' zf fx
 congr 2
 rw [secOk,Bool.not_and]
 congr 1
 ·by_cases h:at_<0
  ·rw [decide_eq_true h,decide_eq_false (by omega)];rfl
  ·rw [decide_eq_false h,decide_eq_true (by omega)];rfl
 ·by_cases h:at_<1024
  ·rw [decide_eq_true h,decide_eq_false (by omega)];rfl
  ·rw [decide_eq_false h,decide_eq_true (by omega)];rfl
@[go_sem] noncomputable def za1:Ent Tryz.prog 184:= .m1 (intT .i64) zkr
theorem zlB (l:List Int) (x:Int) (k:Nat):idxP (fun q=>x==q) l k=idxP (fun q=>q==x) l k:=by
 have:(fun q:Int=>x==q)=(fun q=>q==x):=by funext q;exact BEq.comm
 rw [this]
theorem zpT (d:Disk) (p:Plan) (at_:Int) (hp:DiskOk d∧PlanOk p∧p.targets.length=p.texts.length):AC 112 [diskA d,planA p,.d (.int .i64 at_)] (.tup [.d (.str (plook d p at_).1),.d (.int .i64 (plook d p at_).2)]):=by
 obtain ⟨hd,hp,hl⟩:=hp
 refine bod Tryz.func112 Tryz.ntmps112 (fun base=>?_)
 have ht:=hp.targets
 have hsw:=zlB p.targets at_ 0
 rcases zap p.targets at_ with hk|⟨k,hk,hkl⟩
 ·have hk':=hk
  unfold pfind at hk'
  refine' walkW (zE hsw hk') (za zaC <| za zp <| zb _)
  rw [plook,hk,if_neg (by omega)]
 ·have hk':=hk
  unfold pfind at hk'
  obtain ⟨s,hq⟩:=zaP (l:=p.texts) (i:=k) (by omega)
  have hrow:=zcD (g:=strD) hq
  simp only [strD] at hrow
  have h1:decide ((0:Int)≤(k:Int))=true:=decide_eq_true (by omega)
  refine' walkW (zdA hsw hk' hrow natC h1) (za zaC <| za zp <| zb _)
  rw [plook,hk,if_pos (by omega),Int.toNat_natCast,List.getD_eq_getElem?_getD,hq]
  rfl
@[go_sem] noncomputable def z7:Ent Tryz.prog 112:= .m3 zv zH (intT .i64) zpT
open Go Go.Proofs
theorem zhd (l:List Int) (fl:Nat) (hl:l.length≤5000):ACall Tryz.prog 203 fl [.d (.sl 1 (l.map intD))] [] (fun r h'=>r= .osl fl 1 l.length 0 l.length∧h'= [(fl,.arr 1 (l.map intD))]):=by
 refine bod Tryz.func203 Tryz.ntmps203 (fun base=>?_)
 refine' ze2 (zbS 2) fx
 ·refine zc noTab (zb _) (fun K hK=>?_);simp only [go_sem,aeq,aeq.aeqF,simprocAttr]
  (first|(refine hK _ ?_;clear hK K)|(clear hK K;refine hK _ ?_;clear hK K)|(clear hK K;clear hK K;refine hK _ ?_;clear hK K)|(clear hK K;clear hK K;clear hK K;refine hK _ ?_;clear hK K)|(clear hK K;clear hK K;clear hK K;clear hK K;refine hK _ ?_;clear hK K))
  refine zdf 2 1 rfl ?_
  have h0:l= []:=List.map_eq_nil_iff.1 (hnb hc)
  subst h0
  refine' zf fx
  all_goals rfl
theorem zhe (l:List Txt) (fl:Nat) (hl:l.length≤5000):ACall Tryz.prog 204 fl [.d (.sl 1 (l.map strD))] [] (fun r h'=>r= .osl fl 1 l.length 0 l.length∧h'= [(fl,.arr 1 (l.map strD))]):=by
 refine bod Tryz.func204 Tryz.ntmps204 (fun base=>?_)
 refine' ze2 (zbS 2) fx
 ·refine zc noTab (zb _) (fun K hK=>?_);simp only [go_sem,aeq,aeq.aeqF,simprocAttr]
  (first|(refine hK _ ?_;clear hK K)|(clear hK K;refine hK _ ?_;clear hK K)|(clear hK K;clear hK K;refine hK _ ?_;clear hK K)|(clear hK K;clear hK K;clear hK K;refine hK _ ?_;clear hK K)|(clear hK K;clear hK K;clear hK K;clear hK K;refine hK _ ?_;clear hK K))
  refine zdf 2 1 rfl ?_
  have h0:l= []:=List.map_eq_nil_iff.1 (hnb hc)
  subst h0
  refine' zf fx
  all_goals rfl
theorem zq6 (l:List Int) (h:l.length≤5000) (fl:Nat):ACall Tryz.prog 203 fl [.d (.sl 1 (l.map intD))] [] (fun r h'=>r= .osl fl 1 (l.map intD).length 0 (l.map intD).length∧h'= [(fl,.arr 1 (l.map intD))]):=by
 rw [List.length_map];exact zhd l fl h
theorem zq7 (l:List Txt) (h:l.length≤5000) (fl:Nat):ACall Tryz.prog 204 fl [.d (.sl 1 (l.map strD))] [] (fun r h'=>r= .osl fl 1 (l.map strD).length 0 (l.map strD).length∧h'= [(fl,.arr 1 (l.map strD))]):=by
 rw [List.length_map];exact zhe l fl h
theorem zrC (p:Plan) (at_:Int) (s:Txt) (hp:PlanOk p∧p.targets.length=p.texts.length∧p.targets.length≤24):AC 190 [planA p,.d (.int .i64 at_),.d (.str s)] (.tup [planA (pset p at_ s).1,.d (.int .i64 (pset p at_ s).2)]):=by
 obtain ⟨hp,hl,h24⟩:=hp
 refine fbod Tryz.func190 Tryz.ntmps190 (fun base=>?_)
 have hsw:=zlB p.targets at_ 0
 rcases zap p.targets at_ with hk|⟨k,hk,hkl⟩
 ·have hk':=hk
  unfold pfind at hk'
  refine' znK (ownsL [203,204]) (zE hsw hk') (za za1 <| za zaC <| zb _)
  all_goals first|(simp_all [pset];done)|skip
  refine ⟨_,_,zq6 p.targets (by omega),_,_,zq7 p.texts (by omega),by kernel_rfl,hK _ ?_⟩
  clear hK K
  simp only [List.length_map]
  refine' walkW (zE hsw hk') (za za1 <| za zaC <| zb _)
  all_goals first|(simp_all [pset];done)|skip
  rw [zd7 intD p.targets at_ [D.int .i64 at_] rfl,zd7 strD p.texts s [D.str s] rfl]
  by_cases h6:24≤(p.targets.length:Int)
  ·exfalso;simp_all;omega
  ·simp_all [pset]
   simp only [if_neg (show ¬(24:Int)≤p.texts.length by omega)]
   simp
 ·have hk':=hk
  unfold pfind at hk'
  have h1:decide ((0:Int)≤(k:Int))=true:=decide_eq_true (by omega)
  refine' znK (ownsL [203,204]) (zE hsw hk') (za za1 <| za zaC <| zb _)
  all_goals first|(simp_all [pset];done)|skip
  refine ⟨_,_,zq6 p.targets (by omega),_,_,zq7 p.texts (by omega),by kernel_rfl,hK _ ?_⟩
  clear hK K
  simp only [List.length_map]
  refine' walkW (za4 hsw hk' h1 natC) (za za1 <| za zaC <| zb _)
  all_goals first|(simp_all [pset];done)|skip
  rw [zn0 (by omega),zlA (by simp)]
  simp_all [pset]
@[go_sem] noncomputable def zbU:Ent Tryz.prog 190:= .m3 zH (intT .i64) strT zrC
open Go Go.Proofs
def pfitZ:List Int→List (Int×Txt)→Bool
 |_,[]=>true
 |seen,q::r=>secOk q.1&& !seen.contains q.1&&((q.2.length:Int)==64)&&pfitZ (seen++ [q.1]) r
theorem zgw:∀ (t:List Int) (s:List Txt) (seen:List Int),pfitL seen t s=pfitZ seen (t.zip s)
 | [],s,seen=>by simp [pfitL,pfitZ]
 |t::r,[],seen=>by simp [pfitL,pfitZ]
 |t::r,s::q,seen=>by simp only [pfitL,pfitZ,List.zip_cons_cons,zgw r q]
theorem ze6:∀ (l:List (Int×Txt)) (seen:List Int) (q:Int×Txt),pfitZ seen (l++ [q])=(pfitZ seen l&&(secOk q.1&& !(seen++l.map (·.1)).contains q.1&&((q.2.length:Int)==64)))
 | [],seen,q=>by simp [pfitZ]
 |a::l,seen,q=>by
  rw [List.cons_append,pfitZ,pfitZ,ze6 l,List.map_cons,List.append_assoc,List.singleton_append]
  simp only [Bool.and_assoc]
theorem zn3:∀ (t:List Int) (s:List Txt) (k:Nat) (x:Txt) (y:Int),t[k]?=some y→t.zip (s.set k x)=(t.zip s).set k (y,x)
 | [],s,k,x,y,h=>by simp at h
 |t::r,[],k,x,y,h=>by simp
 |t::r,a::s,0,x,y,h=>by
  have:t=y:=by simpa using h
  subst this
  simp
 |t::r,a::s,k+1,x,y,h=>by
  simp only [List.set_cons_succ,List.zip_cons_cons]
  rw [zn3 r s k x y (by simpa using h)]
theorem zjq:∀ (l:List (Int×Txt)) (seen:List Int) (k:Nat) (y:Int) (x:Txt),(∃z,l[k]?=some (y,z))→(x.length:Int)=64→pfitZ seen l=true→pfitZ seen (l.set k (y,x))=true
 | [],seen,k,y,x,h,hx,hf=>by obtain ⟨z,h⟩:=h;simp at h
 |a::l,seen,0,y,x,h,hx,hf=>by
  obtain ⟨z,h⟩:=h
  have:a=(y,z):=by simpa using h
  subst this
  simp only [List.set_cons_zero,pfitZ,Bool.and_eq_true] at hf ⊢
  exact ⟨⟨hf.1.1,by simpa using hx⟩,hf.2⟩
 |a::l,seen,k+1,y,x,h,hx,hf=>by
  simp only [List.set_cons_succ,pfitZ,Bool.and_eq_true] at hf ⊢
  exact ⟨hf.1,zjq l _ k y x (by simpa using h) hx hf.2⟩
theorem pfit_iff {p:Plan} :pfit p=true↔p.targets.length=p.texts.length∧p.targets.length≤24∧pfitZ [] (p.targets.zip p.texts)=true:=by
 simp only [pfit,Bool.and_eq_true,decide_eq_true_eq,zgw,and_assoc]
theorem zn4 {l:List Int} {a:Int} (h:pfind l a= -1):l.contains a=false:=by
 have:=zkk (fun x=>x==a) l 0
 unfold pfind at h
 rw [h] at this
 rw [← List.any_beq']
 simpa using this.symm
theorem zcH {p:Plan} {at_:Int} {s:Txt} (hp:pfit p=true):pfit (pset p at_ s).1=true:=by
 obtain ⟨h1,h2,h3⟩:=pfit_iff.1 hp
 unfold pset
 split
 ·exact hp
 rename_i hs
 have hs:secOk at_=true:=by simpa using hs
 split
 ·exact hp
 rename_i hl
 have hl:(s.length:Int)=64:=by simpa using hl
 rcases zap p.targets at_ with hk|⟨k,hk,hkl⟩
 ·rw [if_neg (by omega)]
  split
  ·exact hp
  ·rename_i h24
   refine pfit_iff.2 ⟨by simp [h1],by simp;omega,?_⟩
   rw [List.zip_append h1]
   show pfitZ [] (p.targets.zip p.texts++ [(at_,s)])=true
   rw [ze6,h3,hs]
   have:(p.targets.zip p.texts).map (·.1)=p.targets:=by rw [List.map_fst_zip (by omega)]
   rw [List.nil_append,this,zn4 hk,hl]
   rfl
 ·rw [if_pos (by omega),hk,Int.toNat_natCast]
  obtain ⟨y,hy⟩:=zaP hkl
  obtain ⟨z,hz⟩:=zaP (l:=p.texts) (i:=k) (by omega)
  refine pfit_iff.2 ⟨by simp [h1],h2,?_⟩
  show pfitZ [] (p.targets.zip (p.texts.set k s))=true
  rw [zn3 _ _ _ _ y hy]
  exact zjq _ _ _ _ _ ⟨z,List.getElem?_zip_eq_some.2 ⟨hy,hz⟩⟩ hl h3
theorem zhH {d:Disk} {p:Plan} {at_ off:Int} {s:Txt} (hp:pfit p=true):pfit (zbT d p at_ off s).1=true:=by
 unfold zbT
 split
 ·exact hp
 split
 ·exact hp
 ·exact zcH hp
theorem zn5 (d:Disk) (p:Plan) (at_ off:Int) (s:Txt) (hp:DiskOk d∧d.cache.all (putOk d)=true∧pfit p=true∧s.length≤9223372036854775807):AC 167 [diskA d,planA p,.d (.int .i64 at_),.d (.int .i64 off),.d (.str s)] (.tup [planA (zbT d p at_ off s).1,.d (.int .i64 (zbT d p at_ off s).2)]):=by
 obtain ⟨hd,hf,hp,hs⟩:=hp
 refine fbod Tryz.func167 Tryz.ntmps167 (fun base=>?_)
 obtain ⟨hl,h24,h64⟩:=zau hp
 have hpo:PlanOk p:=⟨by omega,by omega⟩
 have hb:=zjk (at_:=at_) hf hp
 refine' walkW fx (za z7 <| za zQ <| za zbU <| zb _)
 all_goals first|(simp_all [zbT];done)|skip
@[go_sem] noncomputable def zaF:Ent Tryz.prog 167:= .m5 zv zH (intT .i64) (intT .i64) strT zn5
open Go Go.Proofs
theorem zks (p:Plan) (_:True):AC 183 [planA p] (.fn (.func 198) [] [.dp (planC p)]):=by
 refine fbod Tryz.func183 Tryz.ntmps183 (fun base=>?_)
 refine' zf fx
@[go_sem] noncomputable def zb7:Ent Tryz.prog 183:= .m1 zH zks
def zbu (q:Int×Txt):List AV:= [.d (.int .i64 q.1),.d (.str q.2)]
def unI:List AV→Int×Txt
 | [.d (.int _ n),.d (.str s)]=>(n,s)
 |_=>(0,[])
theorem zdm (ys:List (Int×Txt)):(ys.map zbu).map unI=ys:=by
 rw [List.map_map]
 exact List.map_id'' (fun _=>rfl) ys
abbrev Sst (p:Plan):= { q:Nat×List (List AV) // q.1≤p.targets.length∧q.2++((p.targets.zip p.texts).drop q.1).map zbu=(p.targets.zip p.texts).map zbu }
theorem zgx (p:Plan) (hp:PlanOk p) (hl:p.targets.length=p.texts.length):AIter Tryz.prog 198 100 [] [.dp (planC p)] [] ((p.targets.zip p.texts).map zbu) (fun g h'=>(∀xs,g=some xs→xs=(p.targets.zip p.texts).map zbu)∧h'= []):=by
 refine itr Tryz.func198 Tryz.ntmps198 (fun base y=>?_)
 refine' zay fx
 have h1:=hp.targets
 refine zC (fun q:Sst p=>⟨[(0,true,.fn (.yield y.yl) [] []),(1,true,.dp [.d (.sl 1 (p.targets.map intD)),.d (.sl 1 (p.texts.map strD))]),(6,true,.d (.sl 1 (p.targets.map intD))),(7,true,.d (.int .i64 p.targets.length)),(8,true,.d (.int .i64 q.1.1))],[],some q.1.2⟩) (fun q=>p.targets.length - q.1.1) ⟨(0,[]),Nat.zero_le _,rfl⟩ le1 (fun q=>?_)
 obtain ⟨⟨i,xs⟩,hi,hf⟩:=q
 simp only at hi hf ⊢
 rcases zas intD p.targets i hi with ⟨m,hq,hlt,hcmp,hrow,hdr,htk⟩|⟨hend,hcmp⟩
 ·obtain ⟨s,hq'⟩:=zaP (l:=p.texts) (i:=i) (by omega)
  have hrow':=zcD (g:=strD) hq'
  simp only [intD] at hrow
  simp only [strD] at hrow'
  have hwi:=zG (i:=i) (by omega)
  have hcmp':decide ((i:Int)<(p.texts.length:Int))=true:=by rw [← hl];exact hcmp
  have hz:(p.targets.zip p.texts)[i]?=some (m,s):=List.getElem?_zip_eq_some.2 ⟨hq,hq'⟩
  rw [zeZ hz,List.map_cons] at hf
  have hpre:(xs++ [zbu (m,s)])<+:(p.targets.zip p.texts).map zbu:=by rw [← hf];simp
  simp only [zbu] at hpre
  refine' zay (zdA hcmp hcmp' hrow hrow' natC)
  exact ⟨⟨(i+1,xs++ [zbu (m,s)]),by omega,by rw [← hf];simp⟩,by simp only [AS.le,leT,leH,zh,AsgK,AV.le,AV.leL,AObj.le,inH,idsT,idsH,AV.ids,AV.idsL,AV.idsR,AObj.ids,lk,hget,go_sem,aeq,aeq.aeqF,simprocAttr,hwi,zbu],by simp;omega⟩
 ·refine' zay hcmp
  rintro zs rfl
  rw [← hf,List.drop_of_length_le (by rw [List.length_zip];omega)]
  simp
def layF (d:Disk) (l:List (Int×Txt)):Disk:=l.foldl (fun d q=>(zD d q.1 q.2).1) d
@[go_sem] theorem layF_nil (d:Disk):layF d []=d:=rfl
theorem zn6:∀ (l:List (Int×Txt)) {d:Disk},DiskOk d→DiskOk (layF d l)
 | [],_,h=>h
 |q::l,d,h=>zn6 l (zgu h q.1 q.2)
theorem zn7 (d:Disk) (l:List (Int×Txt)) (q:Int×Txt):layF d (l++ [q])=(zD (layF d l) q.1 q.2).1:=by simp [layF]
theorem zfU:∀ (l r:List (Int×Txt)) (d:Disk),(layL d l).2=0→layL d (l++r)=layL (layF d l) r
 | [],r,d,_=>rfl
 | q::l,r,d,h=>by
  rw [layL] at h
  rw [List.cons_append,layL]
  split
  ·rename_i hq
   rw [if_pos hq] at h
   exact absurd h hq
  ·rename_i hq
   rw [if_neg hq] at h
   exact zfU l r _ h
theorem zrD (d:Disk) (p:Plan) (hp:DiskOk d∧PlanOk p∧p.targets.length=p.texts.length):AC 155 [diskA d,planA p] (.tup [diskA (play d p).1,.d (.int .i64 (play d p).2)]):=by
 obtain ⟨hd,hp,hl⟩:=hp
 refine fbod Tryz.func155 Tryz.ntmps155 (fun base=>?_)
 refine' walkR fx (za zb7 <| za zn <| zb _)
 obtain ⟨I,hI⟩:∃I:List (List AV)→AHeap×Option (List (List AV)),I=fun xs=>([(3,.var [.d (.int .i64 0)]),(2,.var [.d (.str []),.nils 2,.d (.int .i64 0),.d (.bool false),.nils 1]),(1,.var [.d (.sl 1 (p.targets.map intD)),.d (.sl 1 (p.texts.map strD))]),(0,(.var [.d (.str (layF d (xs.map unI)).data),.d (.sl 2 ((layF d (xs.map unI)).cache.map putD)),.d (.int .i64 (layF d (xs.map unI)).fuse),.d (.bool (layF d (xs.map unI)).off),.d (.sl 1 ((layF d (xs.map unI)).bad.map intD))]))],some []):=⟨_,rfl⟩
 obtain ⟨G,hG⟩:∃G:List (List AV)→Prop,G=fun xs=>(layL d (xs.map unI)).2=0:=⟨_,rfl⟩
 obtain ⟨J,hJ⟩:∃J:Code→AHeap→Option (List (List AV))→Prop,J=fun c h g=>c= .exit 0∧g=some []∧∃D e,play d p=(D,e)∧h= [(3,.var [.d (.int .i64 e)]),(2,.var [.d (.str []),.nils 2,.d (.int .i64 0),.d (.bool false),.nils 1]),(1,.var [.d (.sl 1 (p.targets.map intD)),.d (.sl 1 (p.texts.map strD))]),(0,(.var [.d (.str D.data),.d (.sl 2 (D.cache.map putD)),.d (.int .i64 D.fuse),.d (.bool D.off),.d (.sl 1 (D.bad.map intD))]))]:=⟨_,rfl⟩
 refine za9 100 G I J (zgx p hp hl) (by simp only [go_sem,aeq,aeq.aeqF,simprocAttr]) rfl (zM rfl) (by simp [cxOf,cxY]) rfl (by rw [hG];first|trivial|rfl|simp) (by rw [hI];simp only [AS.le,leT,leH,zh,AsgK,AV.le,AV.leL,AObj.le,inH,idsT,idsH,AV.ids,AV.idsL,AV.idsR,AObj.ids,lk,hget,go_sem,aeq,aeq.aeqF,simprocAttr]<;>simp [AV.leL,AV.le]) (by rw [hI];simp only [AS.le,leT,leH,zh,AsgK,AV.le,AV.leL,AObj.le,inH,idsT,idsH,AV.ids,AV.idsL,AV.idsR,AObj.ids,lk,hget,go_sem,aeq,aeq.aeqF,simprocAttr]<;>simp) (by rw [hI]<;>rfl) (by intro x hx;obtain ⟨q,_,rfl⟩:=List.mem_map.1 hx;rfl) (by intro t ht;simp at ht;first|(rcases ht with rfl|rfl<;>simp [cxOf,cxY]<;>done)|(subst ht;simp [cxOf,cxY])) ?_ ?_ ?_
 ·intro xs x hpre hgd l1 r1
  obtain ⟨ys,⟨n,s⟩,zs,rfl,rfl,hzl⟩:=zdi hpre
  rw [hG] at hgd
  simp only [zdm] at hgd
  have hx:=zn6 ys hd
  have hall:play d p=layL (layF d ys) ((n,s)::zs):=by rw [play,hzl,zfU _ _ _ hgd]
  rw [layL] at hall
  simp only [zbu]
  refine aw_le ⟨[(11,true,.d (.int .i64 n)),(12,true,.d (.str s)),(2,true,.vp 0 0),(3,true,.vp 1 0),(4,true,.vp 2 0),(6,true,.vp 3 0)],[(3,.var [.d (.int .i64 0)]),(2,.var [.d (.str []),.nils 2,.d (.int .i64 0),.d (.bool false),.nils 1]),(1,.var [.d (.sl 1 (p.targets.map intD)),.d (.sl 1 (p.texts.map strD))]),(0,(.var [.d (.str (layF d ys).data),.d (.sl 2 ((layF d ys).cache.map putD)),.d (.int .i64 (layF d ys).fuse),.d (.bool (layF d ys).off),.d (.sl 1 ((layF d ys).bad.map intD))]))],some []⟩ (by rw [hI];simp only [zdm];simp only [AS.le,leT,leH,zh,AsgK,AV.le,AV.leL,AObj.le,inH,idsT,idsH,AV.ids,AV.idsL,AV.idsR,AObj.ids,lk,hget,go_sem,aeq,aeq.aeqF,simprocAttr]) ?_
  have hsn:((ys.map zbu++ [[AV.d (.int .i64 n),AV.d (.str s)]]).map unI)=ys++ [(n,s)]:=by
   rw [List.map_append,zdm];rfl
  have hsf:layF d (ys++ [(n,s)])=(zD (layF d ys) n s).1:=zn7 _ _ _
  refine' walkR (zN hI hsn hsf) (za zb7 <| za zn <| zb _)
  all_goals first|rfl|skip
  ·have hc:(zD (layF d ys) n s).2≠0:=by simpa using hc
   rw [hJ]
   exact ⟨rfl,rfl,_,_,by rw [hall,if_pos hc],rfl⟩
  ·have hc:(zD (layF d ys) n s).2=0:=by simpa using hc
   rw [hG]
   simp only [hsn]
   rw [zfU _ _ _ hgd,layL,if_neg (by simpa using hc)]
   rfl
  ·have hc:(zD (layF d ys) n s).2=0:=by simpa using hc
   rw [hc]
 ·intro hgd
  rw [hG] at hgd
  simp only [zdm] at hgd
  have hall:play d p=(layF d (p.targets.zip p.texts),0):=by
   have:=zfU (p.targets.zip p.texts) [] d hgd
   rw [List.append_nil] at this
   rw [play,this,layL]
  rw [hI]
  simp only [zdm]
  refine' zdL fx
  rw [hall]
 ·rw [hJ]
  rintro c h3 g3 ⟨rfl,rfl,D,e,hall,rfl⟩
  refine' zdL fx
  rw [hall]
@[go_sem] noncomputable def zeH:Ent Tryz.prog 155:= .m2 zv zH zrD
open Go Go.Proofs
def seenM (l:List Int):List (D×D):=l.map fun n=>(.int .i64 n,.bool true)
@[go_sem] theorem zsL:seenM []= []:=rfl
theorem zmu (l:List Int):((seenM l).all fun p=>alike (.int .i64) p.1)=true:=by
 simp [seenM,alike]
theorem zrE (n m:Int) (v:D) (l:List (D×D)):mat (.int .i64 n) ((.int .i64 m,v)::l)=if n=m then some v else mat (.int .i64 n) l:=by
 by_cases h:n=m<;>simp [mat,sameS,h]
theorem zpW (n m:Int) (w v:D) (l:List (D×D)):mput (.int .i64 n) w ((.int .i64 m,v)::l)=if n=m then (.int .i64 n,w)::l else (.int .i64 m,v)::mput (.int .i64 n) w l:=by
 by_cases h:n=m<;>simp [mput,sameS,h]
theorem zlC (n:Int):∀l:List Int,((mat (.int .i64 n) (seenM l)).getD (.bool false))= .bool (l.contains n)
 | []=>rfl
 | m::l=>by
  have ih:=zlC n l
  have e:seenM (m::l)=(.int .i64 m,.bool true)::seenM l:=rfl
  rw [e,zrE,List.contains_cons]
  by_cases h:n=m
  ·subst h;simp
  ·rw [if_neg h,ih]
   simp [h]
theorem zlD (n:Int):∀l:List Int,l.contains n=false→mput (.int .i64 n) (.bool true) (seenM l)=seenM (l++ [n])
 | [],_=>rfl
 |m::l,h=>by
  simp only [List.contains_cons,Bool.or_eq_false_iff] at h
  have ih:=zlD n l h.2
  have e:seenM (m::l)=(.int .i64 m,.bool true)::seenM l:=rfl
  rw [e,zpW,if_neg (by simpa using h.1),ih]
  rfl
theorem zjr:∀ (l r:List (Int×Txt)) (seen:List Int),pfitZ seen (l++r)=(pfitZ seen l&&pfitZ (seen++l.map (·.1)) r)
 | [],r,seen=>by simp [pfitZ]
 |a::l,r,seen=>by
  rw [List.cons_append,pfitZ,pfitZ,zjr l,List.map_cons,List.append_assoc,List.singleton_append]
  simp only [Bool.and_assoc]
theorem zrF (p:Plan) (hp:PlanOk p):AC 143 [planA p] (.d (.bool (pfit p))):=by
 refine fbod Tryz.func143 Tryz.ntmps143 (fun base=>?_)
 have h1:=hp.targets
 have h2:=hp.texts
 refine' walkR fx (za zb7 <| za za1 <| zb _)
 ·have:pfit p=false:=by
   simp only [Bool.or_eq_true,bne_iff_ne,decide_eq_true_eq] at hc
   rw [pfit]
   rcases hc with hc|hc
   ·rw [decide_eq_false (p:=p.targets.length=p.texts.length) (by omega)];simp
   ·rw [decide_eq_false (p:=p.targets.length≤24) (by omega)];simp
  rw [this]
 obtain ⟨hl,h24⟩:p.targets.length=p.texts.length∧p.targets.length≤24:=by
  simp only [Bool.or_eq_false_iff,bne_eq_false_iff_eq,decide_eq_false_iff_not] at hc
  omega
 have hfit:pfit p=pfitZ [] (p.targets.zip p.texts):=by
  rw [pfit,decide_eq_true hl,decide_eq_true h24,zgw];simp
 obtain ⟨I,hI⟩:∃I:List (List AV)→AHeap×Option (List (List AV)),I=fun xs=>([(3,.var [.map 2]),(2,.omap (seenM ((xs.map unI).map (·.1)))),(1,.var [.d (.bool false)]),(0,.var [.d (.sl 1 (p.targets.map intD)),.d (.sl 1 (p.texts.map strD))])],some []):=⟨_,rfl⟩
 obtain ⟨G,hG⟩:∃G:List (List AV)→Prop,G=fun xs=>pfitZ [] (xs.map unI)=true:=⟨_,rfl⟩
 obtain ⟨J,hJ⟩:∃J:Code→AHeap→Option (List (List AV))→Prop,J=fun c h g=>c= .ret∧g=some []∧pfit p=false∧∃m,h= [(3,.var [.map 2]),(2,.omap m),(1,.var [.d (.bool false)]),(0,.var [.d (.sl 1 (p.targets.map intD)),.d (.sl 1 (p.texts.map strD))])]:=⟨_,rfl⟩
 refine za9 100 G I J (zgx p hp hl) (by simp only [go_sem,aeq,aeq.aeqF,simprocAttr]) rfl (zM rfl) (by simp [cxOf,cxY]) rfl (by rw [hG];first|trivial|rfl|simp) (by rw [hI];simp only [AS.le,leT,leH,zh,AsgK,AV.le,AV.leL,AObj.le,inH,idsT,idsH,AV.ids,AV.idsL,AV.idsR,AObj.ids,lk,hget,go_sem,aeq,aeq.aeqF,simprocAttr]<;>simp [AV.leL,AV.le]) (by rw [hI];simp only [AS.le,leT,leH,zh,AsgK,AV.le,AV.leL,AObj.le,inH,idsT,idsH,AV.ids,AV.idsL,AV.idsR,AObj.ids,lk,hget,go_sem,aeq,aeq.aeqF,simprocAttr]<;>simp) (by rw [hI]<;>rfl) (by intro x hx;obtain ⟨q,_,rfl⟩:=List.mem_map.1 hx;rfl) (by intro t ht;simp at ht;first|(rcases ht with rfl|rfl<;>simp [cxOf,cxY]<;>done)|(subst ht;simp [cxOf,cxY])) ?_ ?_ ?_
 ·intro xs x hpre hgd l1 r1
  obtain ⟨ys,⟨n,s⟩,zs,rfl,rfl,hzl⟩:=zdi hpre
  rw [hG] at hgd
  simp only [zdm] at hgd
  have hall:pfit p=pfitZ (ys.map (·.1)) ((n,s)::zs):=by
   rw [hfit,hzl,zjr,hgd];rfl
  rw [pfitZ] at hall
  simp only [zbu]
  refine aw_le ⟨[(22,true,.d (.int .i64 n)),(23,true,.d (.str s)),(1,true,.vp 0 0),(2,true,.vp 1 0),(3,true,.vp 3 0)],[(3,.var [.map 2]),(2,.omap (seenM (ys.map (·.1)))),(1,.var [.d (.bool false)]),(0,.var [.d (.sl 1 (p.targets.map intD)),.d (.sl 1 (p.texts.map strD))])],some []⟩ (by rw [hI];simp only [zdm];simp only [AS.le,leT,leH,zh,AsgK,AV.le,AV.leL,AObj.le,inH,idsT,idsH,AV.ids,AV.idsL,AV.idsR,AObj.ids,lk,hget,go_sem,aeq,aeq.aeqF,simprocAttr]) ?_
  have hsm:=zlC n (ys.map (·.1))
  have hsa:=zmu (ys.map (·.1))
  have hsn:((ys.map zbu++ [[AV.d (.int .i64 n),AV.d (.str s)]]).map unI)=ys++ [(n,s)]:=by
   rw [List.map_append,zdm];rfl
  refine' walkR (za4 hI hsn hsm hsa) (za zb7 <| za za1 <| zb _)
  ·rw [hJ]
   refine ⟨rfl,rfl,?_,_,rfl⟩
   have hh:(!secOk n||(ys.map (·.1)).contains n||((s.length:Int) !=64))= !(secOk n&& !(ys.map (·.1)).contains n&&((s.length:Int)==64)):=by
    rw [Bool.not_and,Bool.not_and,Bool.not_not];rfl
   rw [hh] at hc
   simp only [Bool.not_eq_true'] at hc
   rw [hall,hc,Bool.false_and]
  ·rw [hG]
   simp only [hsn]
   simp only [Bool.or_eq_false_iff,Bool.not_eq_false',bne_eq_false_iff_eq] at hc
   rw [ze6,hgd,List.nil_append,hc.1.1,hc.1.2,hc.2]
   rfl
  ·simp only [Bool.or_eq_false_iff] at hc
   rw [zlD _ _ hc.1.2,List.map_append]
   rfl
 ·intro hgd
  rw [hG] at hgd
  simp only [zdm] at hgd
  rw [hI]
  refine' zdL fx
  rw [hfit,hgd]
 ·rw [hJ]
  rintro c h3 g3 ⟨rfl,rfl,hno,m,rfl⟩
  refine' zdL fx
  rw [hno]
@[go_sem] noncomputable def zgy:Ent Tryz.prog 143:= .m1 zH zrF
open Go Go.Proofs
structure DiskF (d:Disk):Prop where
 ok:DiskOk d
 puts:d.cache.all (putOk d)=true
theorem zju {d d':Disk} (h:d'.data.length=d.data.length):putOk d'=putOk d:=by
 funext q
 unfold putOk there dsize
 rw [h]
theorem zce (d:Disk):(burnt d).data=d.data:=by unfold burnt;split<;>rfl
theorem zct (d:Disk):(burnt d).cache=d.cache:=by unfold burnt;split<;>rfl
theorem zgC (d:Disk) (a:Int) (s:Txt):(zD d a s).1.data=d.data:=by
 unfold zD
 repeat' split
 all_goals first|rfl|(rw [zce])
theorem DiskF.write {d:Disk} (h:DiskF d) (a:Int) (s:Txt):DiskF (zD d a s).1:=by
 refine ⟨zgu h.ok a s,?_⟩
 have e:=zju (d:=d) (d':=(zD d a s).1) (by rw [zgC])
 rw [e]
 unfold zD
 split
 ·exact h.puts
 split
 ·exact h.puts
 split
 ·exact h.puts
 split
 ·exact h.puts
 split
 ·exact h.puts
 split
 ·exact h.puts
 ·rename_i h1 h2 h3 h4 h5 h6
  rw [zct,List.all_append,h.puts]
  have h3:(s.length:Int)=64:=by simpa using h3
  simp [putOk,h3]
  simpa using h2
theorem zhJ {d:Disk} (h:d.cache.all (putOk d)=true):(dflush d).1.data.length=d.data.length:=by
 unfold dflush
 split
 ·rfl
 split
 ·rfl
 ·rw [zce];exact zhF h
theorem DiskF.flush {d:Disk} (h:DiskF d):DiskF (dflush d).1:=by
 have hl:=zhJ h.puts
 refine ⟨?_,?_⟩
 ·revert hl
  unfold dflush
  split
  ·intro _;exact h.ok
  split
  ·intro _;exact ⟨h.ok.data,h.ok.cache,h.ok.bad,h.ok.fuse0,h.ok.fuse1⟩
  ·intro hl
   rw [zce] at hl
   exact zlu ⟨by rw [hl];exact h.ok.data,by simp,h.ok.bad,h.ok.fuse0,h.ok.fuse1⟩
 ·rw [zju hl]
  unfold dflush
  split
  ·exact h.puts
  split
  ·exact h.puts
  ·rw [zct];rfl
theorem DiskF.layL:∀ (l:List (Int×Txt)) {d:Disk},DiskF d→DiskF (layL d l).1
 | [],d,h=>h
 |q::l,d,h=>by
  rw [Aw.layL]
  split
  ·exact h.write q.1 q.2
  ·exact DiskF.layL l (h.write q.1 q.2)
def encT (l:List Int):Txt:=l.flatMap (fun t=>putN t.toNat 4)
def padR (s:Txt):Txt:=(padS s 64).1
def trows (l:List Int):List Txt:=if l.length≤16 then [padR (encT l)] else [padR (encT (l.take 16)),padR (encT (l.drop 16))]
def tbody (p:Plan):List Txt:=trows p.targets++p.texts
def thead (seq:Int) (p:Plan):Txt:=putN seq.toNat 8++putN p.targets.length 2
def tsum (c:Int) (l:List Txt):Int:=l.foldl sumOf c
def zq8:Txt:= [67,79,70,74]
def ttop (seq:Int) (p:Plan):Txt:=padR (zq8++thead seq p++putN (65535 - p.targets.length) 2++zeI (tsum (sumOf 0 (thead seq p)) (tbody p)))
def zb3 (seq:Int) (p:Plan):List Txt:=ttop seq p::tbody p
theorem zp0 {p:Plan} (hp:pfit p=true):∀t∈p.targets,0≤t∧t<1024:=by
 obtain ⟨h1,h2,h3⟩:=pfit_iff.1 hp
 have key:∀ (l:List (Int×Txt)) (seen:List Int),pfitZ seen l=true→∀q∈l,0≤q.1∧q.1<1024:=by
  intro l
  induction l with
  |nil=>intro _ _ q hq;simp at hq
  | cons a l ih=>
   intro seen h q hq
   simp only [pfitZ,Bool.and_eq_true] at h
   rcases List.mem_cons.1 hq with rfl|hq
   ·have:=h.1.1.1
    simpa [secOk] using this
   ·exact ih _ h.2 q hq
 intro t ht
 obtain ⟨i,hi,rfl⟩:=List.mem_iff_getElem.1 ht
 have hz:(p.targets.zip p.texts)[i]?=some (p.targets[i],p.texts[i]'(by omega)):=List.getElem?_zip_eq_some.2 ⟨by simp [hi],by simp⟩
 exact key _ _ h3 _ (List.mem_of_getElem? hz)
end Go.Aw
