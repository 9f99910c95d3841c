/-
  Parts of the proof: TabA, TabB, TabC, TabD, PointA, PointB, PointC, RootC (short names; the readable texts lie in the repo, under wip).
-/
import Derived.Test.YtbmlikkofegdeaaGreatPart25
import Derived.Test.YtbmlikkofegdeaaGreatPart17
set_option maxRecDepth 100000
set_option maxHeartbeats 2000000
set_option linter.unusedSimpArgs false
set_option linter.unusedVariables false
namespace Go.Aw
open Go Go.Proofs
structure Ent2 where
 kind:Int
 loc:Int
 deriving DecidableEq
def entA (x:Ent2):AV:= .agg [.d (.int .i64 x.kind),.d (.int .i64 x.loc)]
attribute [go_sem] entA
theorem zrP (x:Ent2):Ent2.mk x.kind x.loc=x:=rfl
noncomputable def zgE:PT Ent2:=aggT (consL (intT .i64) (consL (intT .i64) nilL)) (fun p=>⟨p.1,p.2.1⟩) (fun x=>(x.kind,x.loc,())) (fun _=>rfl)
attribute [go_sem] zgE
attribute [go_sem] zrP
def entOk (x:Ent2):Bool:=if x.kind=1 then zF x.loc else (x.kind==0||x.kind==2)&&x.loc==0
def zav (x:Ent2):Txt:= [UInt8.ofNat x.kind.toNat,0,0,0]++putN x.loc.toNat 4
def entOf (s:Txt):Ent2:=⟨((s.getD 0 0).toNat:Int),((takeN ((s.drop 4).take 4):Nat):Int)⟩
def entT (s:Txt):Ent2×Int:=if entOk (entOf s)=false∨zav (entOf s)≠s then (⟨0,0⟩,14) else (entOf s,0)
def eRef (table i:Int):Bool:= !zF table||decide (i<0)||decide (16≤i)
def eget (d:Disk) (p:Plan) (table i:Int):Ent2×Int:=
 if eRef table i then (⟨0,0⟩,10) else if (plook d p (96+2*table+i / 8)).2≠0 then (⟨0,0⟩,(plook d p (96+2*table+i / 8)).2)
 else entT (((plook d p (96+2*table+i / 8)).1.take (i % 8*8+8).toNat).drop (i % 8*8).toNat)
def eset (d:Disk) (p:Plan) (table i:Int) (x:Ent2):Plan×Int:=
 if eRef table i then (p,10) else if entOk x=false then (p,23) else zbT d p (96+2*table+i / 8) (i % 8*8) (zav x)
def za5 (p:Plan) (tt:Int) (f:Plan→Int→Txt×Int):Nat→Int→Plan→Plan×Int
 |0,_,q=>(q,0)
 |m+1,i,q=>if (f q i).2≠0 then (p,(f q i).2) else if (pset q (96+2*tt+i) (f q i).1).2≠0 then (p,(pset q (96+2*tt+i) (f q i).1).2)
  else za5 p tt f m (i+1) (pset q (96+2*tt+i) (f q i).1).1
def z64:Txt:=List.replicate 64 0
def eblank (p:Plan) (table:Int):Plan×Int:=if zF table=false then (p,10) else za5 p table (fun _ _=>(z64,0)) 2 0 p
def ecopy (d:Disk) (p:Plan) (fr tt:Int):Plan×Int:=if zF fr=false∨zF tt=false then (p,10) else za5 p tt (fun q i=>plook d q (96+2*fr+i)) 2 0 p
def elook (d:Disk) (p:Plan) (l1 guest:Int):Ent2×Int:=
 if guest<0∨64≤guest then (⟨0,0⟩,10) else if (eget d p l1 (guest / 16)).2≠0 then (⟨0,0⟩,(eget d p l1 (guest / 16)).2)
 else if (eget d p l1 (guest / 16)).1.kind=2 then (⟨0,0⟩,14) else if (eget d p l1 (guest / 16)).1.kind=0 then (⟨0,0⟩,0)
 else eget d p (eget d p l1 (guest / 16)).1.loc (guest % 16)
theorem zbb {x:Ent2} (h:entOk x=true):(x.kind=0∨x.kind=1∨x.kind=2)∧0≤x.loc∧x.loc<256:=by
 unfold entOk at h
 split at h
 ·rename_i hk
  have:=hostOk_iff.1 h
  omega
 ·simp only [Bool.and_eq_true,Bool.or_eq_true,beq_iff_eq] at h
  omega
theorem zfb {d:Disk} {p:Plan} {t i:Int} (h:(eget d p t i).2=0):entOk (eget d p t i).1=true∧zF t=true∧0≤i∧i<16:=by
 unfold eget at h ⊢
 split at h
 ·cases h
 rename_i h0
 rw [if_neg h0]
 split at h
 ·rename_i h1;exact absurd h h1
 rename_i h1
 rw [if_neg h1]
 unfold entT at h ⊢
 split at h
 ·cases h
 rename_i h2
 rw [if_neg h2]
 simp only [not_or,Bool.not_eq_false] at h2
 refine ⟨h2.1,?_⟩
 simp only [eRef,Bool.or_eq_true,decide_eq_true_eq,not_or,Bool.not_eq_true',Bool.not_eq_false] at h0
 exact ⟨h0.1.1,by omega,by omega⟩
theorem zfG (x:Ent2):(zav x).length=8:=by rw [zav,List.length_append,zZ];rfl
theorem zqf {d:Disk} {p:Plan} {t i:Int} {x:Ent2} (h:pfit p=true):pfit (eset d p t i x).1=true:=by
 unfold eset
 split
 ·exact h
 split
 ·exact h
 ·exact zhH h
theorem zfc {p:Plan} {tt:Int} {f:Plan→Int→Txt×Int} (h:pfit p=true):∀ (m:Nat) (i:Int) (q:Plan),pfit q=true→pfit (za5 p tt f m i q).1=true
 |0,_,_,hq=>hq
 |m+1,i,q,hq=>by
  rw [za5]
  split
  ·exact h
  split
  ·exact h
  ·exact zfc h m _ _ (zcH hq)
theorem DP.eset {d:Disk} {p:Plan} (h:DP d p) (t i:Int) (x:Ent2):DP d (eset d p t i x).1:=⟨h.d,zqf h.p⟩
theorem DP.eblank {d:Disk} {p:Plan} (h:DP d p) (t:Int):DP d (eblank p t).1:=⟨h.d,by unfold Aw.eblank;split;exact h.p;exact zfc h.p _ _ _ h.p⟩
theorem DP.ecopy {d:Disk} {p:Plan} (h:DP d p) (a b:Int):DP d (ecopy d p a b).1:=⟨h.d,by unfold Aw.ecopy;split;exact h.p;exact zfc h.p _ _ _ h.p⟩
theorem ziz (k:Int) (_:True):AC 163 [.d (.int .i64 k)] (.d (.bool (zF k))):=by
 refine bod Tryz.func163 Tryz.ntmps163 (fun base=>?_)
 refine' zf fx
 rfl
@[go_sem] noncomputable def zdQ:Ent Tryz.prog 163:= .m1 (intT .i64) ziz
theorem zkA (x:Ent2) (_:True):AC 126 [entA x] (.d (.bool (entOk x))):=by
 refine bod Tryz.func126 Tryz.ntmps126 (fun base=>?_)
 refine' walkW fx (za zdQ <| zb _)
 ·have hc:x.kind=1:=by simpa using hc
  rw [entOk,if_pos hc]
 ·have hc:¬x.kind=1:=by simpa using hc
  rw [entOk,if_neg hc]
@[go_sem] noncomputable def zdp:Ent Tryz.prog 126:= .m1 zgE zkA
theorem ziA (t i:Int) (_:True):AC 124 [.d (.int .i64 t),.d (.int .i64 i)] (.d (.bool (eRef t i))):=by
 refine bod Tryz.func124 Tryz.ntmps124 (fun base=>?_)
 refine' walkW fx (za zdQ <| zb _)
 rfl
@[go_sem] noncomputable def zcv:Ent Tryz.prog 124:= .m2 (intT .i64) (intT .i64) ziA
theorem ziB {t i:Int} (h:eRef t i=false):(0≤t∧t<256)∧0≤i∧i<16:=by
 simp only [eRef,Bool.or_eq_false_iff,Bool.not_eq_false',decide_eq_false_iff_not] at h
 exact ⟨hostOk_iff.1 h.1.1,by omega,by omega⟩
theorem zkB (t i:Int) (hp:0≤t∧t<256∧0≤i∧i<16):AC 125 [.d (.int .i64 t),.d (.int .i64 i)] (.tup [.d (.int .i64 (96+2*t+i / 8)),.d (.int .i64 (i % 8*8))]):=by
 obtain ⟨h0,h1,h2,h3⟩:=hp
 refine bod Tryz.func125 Tryz.ntmps125 (fun base=>?_)
 have hw1:IntKind.i64.wrap (i.tdiv 8)=i / 8:=by rw [Int.tdiv_eq_ediv_of_nonneg h2,zi (by omega) (by omega)]
 have hw2:IntKind.i64.wrap (96+2*t+i / 8)=96+2*t+i / 8:=zi (by omega) (by omega)
 have hw3:i.tmod 8=i % 8:=Int.tmod_eq_emod_of_nonneg h2
 have hw4:IntKind.i64.wrap (i % 8*8)=i % 8*8:=zi (by omega) (by omega)
 refine' walkW (za4 hw1 hw2 hw3 hw4) (za zji <| zb _)
@[go_sem] noncomputable def zdq:Ent Tryz.prog 125:= .m2 (intT .i64) (intT .i64) zkB
theorem zkC (x:Ent2) (h:entOk x=true):AC 127 [entA x] (.d (.str (zav x))):=by
 refine fbod Tryz.func127 Tryz.ntmps127 (fun base=>?_)
 obtain ⟨hk,ha0,ha1⟩:=zbb h
 have hw1:IntKind.u8.wrap x.kind=((UInt8.ofNat x.kind.toNat).toNat:Int):=by
  rw [← u8_of,show (x.kind.toNat:Int)=x.kind by omega]
 have hw2:IntKind.u64.wrap x.loc=x.loc:=zat (by omega) (by omega)
 have hl:=zZ x.loc.toNat 4
 have hbo:bytesOf [[D.int .u8 ((UInt8.ofNat x.kind.toNat).toNat:Int)],[D.int .u8 0],[D.int .u8 0],[D.int .u8 0]]= [UInt8.ofNat x.kind.toNat,0,0,0]:=by rcases hk with hh|hh|hh<;>(rw [hh];rfl)
 refine' walkW (zdA hw1 hw2 @zom hl hbo) (za zcV <| zb _)
 ·rfl
 ·rfl
@[go_sem] noncomputable def zdr:Ent Tryz.prog 127:= .m1 zgE zkC
theorem zop (s:Txt):0≤(entOf s).kind∧(entOf s).kind≤255∧0≤(entOf s).loc∧(entOf s).loc≤4294967295:=by
 have h1:=zcE (l:=(s.drop 4).take 4) (i:=4) (by rw [List.length_take];omega)
 have h2:=(s.getD 0 0).toNat_lt
 simp only [entOf]
 omega
theorem zoq (d:Disk) (p:Plan) (t i:Int) (h:DP d p):AC 80 [diskA d,planA p,.d (.int .i64 t),.d (.int .i64 i)] (.tup [entA (eget d p t i).1,.d (.int .i64 (eget d p t i).2)]):=by
 refine fbod Tryz.func80 Tryz.ntmps80 (fun base=>?_)
 have h1:=h.dok
 have h2:=h.pok
 have h3:=h.plen
 by_cases hr:eRef t i=true
 ·refine' walkW hr (za zcv <| za zdq <| za zaE <| za zaS <| za zdp <| za zdr <| za zbk <| zb _)
  rw [eget,if_pos hr]
 have hr:eRef t i=false:=by simpa using hr
 obtain ⟨⟨ht0,ht1⟩,hi0,hi1⟩:=ziB hr
 obtain ⟨A,hA⟩:∃A,A=96+2*t+i / 8:=⟨_,rfl⟩
 have hrg0:eget d p t i=if (plook d p A).2≠0 then (⟨0,0⟩,(plook d p A).2) else entT (((plook d p A).1.take (i % 8*8+8).toNat).drop (i % 8*8).toNat):=by
  rw [eget,if_neg (by rw [hr];exact Bool.false_ne_true),hA]
 by_cases he:(plook d p A).2=0
 ·have hb:((plook d p A).2 !=0)=false:=by simpa using he
  have h64:=zb8 h he
  rw [if_neg (by simpa using he)] at hrg0
  have hw:IntKind.i64.wrap (i % 8*8+8)=i % 8*8+8:=zi (by omega) (by omega)
  obtain ⟨S,hS⟩:∃S,S=((plook d p A).1.take (i % 8*8+8).toNat).drop (i % 8*8).toNat:=⟨_,rfl⟩
  rw [← hS] at hrg0
  have hSl:S.length=8:=by rw [hS,List.length_drop,List.length_take];omega
  have hrr:=zop S
  have htk:List.take S.length S=S:=List.take_length
  have ht4:=zdO (s:=S.drop 4) (z:=4) 4 rfl (by omega) (by omega) (by rw [List.length_drop];omega)
  have hwk:IntKind.i64.wrap (entOf S).kind=(entOf S).kind:=zi (by omega) (by omega)
  have hwl:IntKind.i64.wrap (entOf S).loc=(entOf S).loc:=zi (by omega) (by omega)
  simp only [entOf] at hwk hwl hrr
  have hL2:(List.drop 4 S).length≤8:=by rw [List.length_drop];omega
  refine' walkW (zY hr hA.symm hb hw hS.symm (za4 htk ht4 hwk hwl)) (za zcv <| za zdq <| za zaE <| za zaS <| za zdp <| za zdr <| za zbk <| zb _)
  all_goals (rw [hrg0,entT];clear ht4 hwk hwl htk;simp_all [entOf];done)
 ·have hb:((plook d p A).2 !=0)=true:=by simpa using he
  rw [if_pos he] at hrg0
  refine' walkW (zN hr hA.symm hb) (za zcv <| za zdq <| za zaE <| za zaS <| za zdp <| za zdr <| za zbk <| zb _)
  rw [hrg0]
@[go_sem] noncomputable def zbg:Ent Tryz.prog 80:= .m4 zv zH (intT .i64) (intT .i64) zoq
theorem zhN (p:Plan) (tt:Int) (f:Plan→Int→Txt×Int) (i:Nat) (q:Plan) (hi:i<2):za5 p tt f (2 - i) i q=if (f q i).2≠0 then (p,(f q i).2) else if (pset q (96+2*tt+i) (f q i).1).2≠0 then (p,(pset q (96+2*tt+i) (f q i).1).2)
  else za5 p tt f (2 - (i+1)) (i+1:Nat) (pset q (96+2*tt+i) (f q i).1).1:=by
 rw [show 2 - i=(2 - (i+1))+1 by omega,za5]
 rfl
theorem PlanOk.of {p:Plan} (h:pfit p=true):PlanOk p:=by
 obtain ⟨hl,h24,_⟩:=zau h
 exact ⟨by omega,by omega⟩
theorem zmH (d:Disk) (p:Plan) (l1 g:Int) (h:DP d p):AC 29 [diskA d,planA p,.d (.int .i64 l1),.d (.int .i64 g)] (.tup [entA (elook d p l1 g).1,.d (.int .i64 (elook d p l1 g).2)]):=by
 refine fbod Tryz.func29 Tryz.ntmps29 (fun base=>?_)
 by_cases hg:g<0∨64≤g
 ·have hdec:(decide (g<0)||decide (64≤g))=true:=by simpa using hg
  refine' walkW hdec (za zbg <| zb _)
  rw [elook,if_pos hg]
 ·have hdec:(decide (g<0)||decide (64≤g))=false:=by simpa using hg
  have hw1:IntKind.i64.wrap (g.tdiv 16)=g / 16:=by rw [Int.tdiv_eq_ediv_of_nonneg (by omega),zi (by omega) (by omega)]
  have hw2:g.tmod 16=g % 16:=Int.tmod_eq_emod_of_nonneg (by omega)
  refine' walkW (zN hdec hw1 hw2) (za zbg <| zb _)
  all_goals (rw [elook,if_neg hg];simp_all;done)
@[go_sem] noncomputable def zjz:Ent Tryz.prog 29:= .m4 zv zH (intT .i64) (intT .i64) zmH
open Go Go.Proofs
theorem zrV (k:Int) (_:True):AC 159 [.d (.int .i64 k)] (.d (.bool (!zF k))):=by
 refine bod Tryz.func159 Tryz.ntmps159 (fun base=>?_)
 refine' zf @zbl
@[go_sem] noncomputable def zbX:Ent Tryz.prog 159:= .m1 (intT .i64) zrV
theorem zoD (x:Ent2) (_:True):AC 114 [entA x] (.d (.bool (entOk x))):=by
 refine bod Tryz.func114 Tryz.ntmps114 (fun base=>?_)
 refine' walkW fx (za zbX <| za zbf <| zb _)
 all_goals simp_all [entOk]
@[go_sem] noncomputable def zbJ:Ent Tryz.prog 114:= .m1 zgE zoD
theorem zoE (t i:Int) (_:True):AC 111 [.d (.int .i64 t),.d (.int .i64 i)] (.tup [.d (.int .i64 (if eRef t i then 0 else 96+2*t+i / 8)),.d (.int .i64 (if eRef t i then 0 else i % 8*8)),.d (.int .i64 (if eRef t i then 10 else 0))]):=by
 refine bod Tryz.func111 Tryz.ntmps111 (fun base=>?_)
 cases hr:eRef t i with
 |true=>
  have hdec:(!zF t||decide (i<0)||decide (16≤i))=true:=hr
  refine' walkW hdec (za zbX <| za zbf <| zb _)
 |false=>
  have hdec:(!zF t||decide (i<0)||decide (16≤i))=false:=hr
  obtain ⟨⟨ht0,ht1⟩,hi0,hi1⟩:=ziB hr
  have hw0:IntKind.i64.wrap (i*8)=i*8:=zi (by omega) (by omega)
  have hw1:IntKind.i64.wrap ((i*8).tdiv 64)=i / 8:=by rw [Int.tdiv_eq_ediv_of_nonneg (by omega),zi (by omega) (by omega)];omega
  have hw2:IntKind.i64.wrap (96+2*t+i / 8)=96+2*t+i / 8:=zi (by omega) (by omega)
  have hw3:(i*8).tmod 64=i % 8*8:=by rw [Int.tmod_eq_emod_of_nonneg (by omega)];omega
  refine' walkW (zdA hdec hw0 hw1 hw2 hw3) (za zbX <| za zbf <| zb _)
@[go_sem] noncomputable def zbK:Ent Tryz.prog 111:= .m2 (intT .i64) (intT .i64) zoE
theorem zjE:∀k<3,∀l<256,putN (k*72057594037927936+l) 8= [UInt8.ofNat k,0,0,0]++putN l 4:=by decide+kernel
theorem zoF:∀k<3,∀l<256,ibits .or .u64 (ishl .u64 ((k:Nat):Int) 56) ((l:Nat):Int)=((k*72057594037927936+l:Nat):Int):=by decide+kernel
theorem zmQ (x:Ent2) (h:entOk x=true):AC 197 [entA x] (.d (.str (zav x))):=by
 refine fbod Tryz.func197 Tryz.ntmps197 (fun base=>?_)
 obtain ⟨hk,ha0,ha1⟩:=zbb h
 obtain ⟨kind,loc⟩:=x
 simp only at hk ha0 ha1
 obtain ⟨k,rfl⟩:∃k:Nat,kind=k:=⟨kind.toNat,by omega⟩
 obtain ⟨l,rfl⟩:∃l:Nat,loc=l:=⟨loc.toNat,by omega⟩
 have h1:=zjE k (by omega) l (by omega)
 have h2:=zoF k (by omega) l (by omega)
 have hw1:IntKind.u64.wrap (k:Int)=k:=zat (by omega) (by omega)
 have hw2:IntKind.u64.wrap (l:Int)=l:=zat (by omega) (by omega)
 refine' walkW (zY hw1 hw2 h2 @zsP natC h1) (za zcG <| zb _)
 rfl
@[go_sem] noncomputable def zbo:Ent Tryz.prog 197:= .m1 zgE zmQ
theorem zqp (n:Nat):ishr .u64 (n:Int) 56=((n / 72057594037927936:Nat):Int):=by
 unfold ishr
 rw [show min ((56:Int).toNat) IntKind.u64.bits=56 from rfl]
 rw [Int.fdiv_eq_ediv_of_nonneg _ (by decide)]
 norm_cast
theorem zqq (n:Nat) (hn:n<18446744073709551616):ibits .and .u64 (n:Int) 72057594037927935=((n % 72057594037927936:Nat):Int):=by
 show IntKind.u64.wrap (((BitVec.ofInt 64 (n:Int)&&& BitVec.ofInt 64 72057594037927935).toNat:Nat):Int)=_
 have h2:BitVec.ofInt 64 72057594037927935=BitVec.ofNat 64 72057594037927935:=by decide
 rw [h2,BitVec.ofInt_natCast,BitVec.toNat_and,BitVec.toNat_ofNat,BitVec.toNat_ofNat]
 rw [Nat.mod_eq_of_lt (by omega),show 72057594037927935 % 2 ^ 64=2 ^ 56 - 1 by decide,Nat.and_two_pow_sub_one_eq_mod,zat (by omega) (by omega)]
theorem zkP (e f g h:UInt8):putN (takeN [e,f,g,h]) 4= [e,f,g,h]:=by
 simp only [takeN,putN,List.foldl,List.nil_append,List.cons_append]
 have:=e.toNat_lt;have:=f.toNat_lt;have:=g.toNat_lt;have:=h.toNat_lt
 have key:∀ (n:Nat) (c:UInt8),n % 256=c.toNat→UInt8.ofNat n=c:=fun n c hh=>by
  apply UInt8.toNat_inj.1
  rw [UInt8.toNat_ofNat']
  simpa using hh
 rw [key _ e (by omega),key _ f (by omega),key _ g (by omega),key _ h (by omega)]
theorem zqr (s:Txt) (hs:s.length=8):entT s=if entOk ⟨((takeN s / 72057594037927936:Nat):Int),((takeN s % 72057594037927936:Nat):Int)⟩=true then (⟨((takeN s / 72057594037927936:Nat):Int),((takeN s % 72057594037927936:Nat):Int)⟩,0) else (⟨0,0⟩,14):=by
 match s,hs with
 | [a,b,c,d,e,f,g,h],_=>
  obtain ⟨L,hL⟩:∃L,L=takeN [e,f,g,h]:=⟨_,rfl⟩
  have hL4:L<4294967296:=by
   have h1:=zcE (l:= [e,f,g,h]) (i:=4) (by simp)
   have h2:256 ^ 4=4294967296:=by decide
   omega
  have hpt:putN L 4= [e,f,g,h]:=by rw [hL];exact zkP e f g h
  have ha:=a.toNat_lt;have hb:=b.toNat_lt;have hc:=c.toNat_lt;have hd:=d.toNat_lt
  have hn:takeN [a,b,c,d,e,f,g,h]=((a.toNat*256+b.toNat)*256+c.toNat)*256*4294967296+d.toNat*4294967296+L:=by
   rw [hL]
   simp only [takeN,List.foldl]
   omega
  rw [hn]
  have h1:(((a.toNat*256+b.toNat)*256+c.toNat)*256*4294967296+d.toNat*4294967296+L) / 72057594037927936=a.toNat:=by omega
  have h2:(((a.toNat*256+b.toNat)*256+c.toNat)*256*4294967296+d.toNat*4294967296+L) % 72057594037927936=(b.toNat*256+c.toNat)*256*4294967296+d.toNat*4294967296+L:=by omega
  rw [h1,h2]
  have he:entOf [a,b,c,d,e,f,g,h]=⟨(a.toNat:Int),(L:Int)⟩:=by rw [hL];rfl
  have hby:zav ⟨(a.toNat:Int),(L:Int)⟩= [a,0,0,0,e,f,g,h]:=by
   rw [zav]
   simp only [Int.toNat_natCast,hpt]
   rw [show UInt8.ofNat a.toNat=a by simp]
   rfl
  rw [entT,he,hby]
  by_cases hz:b=0∧c=0∧d=0
  ·obtain ⟨rfl,rfl,rfl⟩:=hz
   simp only [UInt8.toNat_zero,Nat.zero_mul,Nat.zero_add]
   cases hk:entOk ⟨(a.toNat:Int),(L:Int)⟩<;>simp
  ·have hne:([a,0,0,0,e,f,g,h]:Txt)≠ [a,b,c,d,e,f,g,h]:=by
    intro hh
    simp only [List.cons.injEq,true_and] at hh
    exact hz ⟨hh.1.symm,hh.2.1.symm,hh.2.2.1.symm⟩
   rw [if_pos (.inr hne),if_neg]
   intro hk
   obtain ⟨_,_,hlt⟩:=zbb hk
   simp only at hlt
   apply hz
   have hb0:b.toNat=0∧c.toNat=0∧d.toNat=0:=by omega
   exact ⟨UInt8.toNat_inj.1 hb0.1,UInt8.toNat_inj.1 hb0.2.1,UInt8.toNat_inj.1 hb0.2.2⟩
open Go Go.Proofs
theorem zrW (d:Disk) (p:Plan) (t i:Int) (h:DP d p):AC 68 [diskA d,planA p,.d (.int .i64 t),.d (.int .i64 i)] (.tup [entA (eget d p t i).1,.d (.int .i64 (eget d p t i).2)]):=by
 refine fbod Tryz.func68 Tryz.ntmps68 (fun base=>?_)
 have h1:=h.dok
 have h2:=h.pok
 have h3:=h.plen
 by_cases hr:eRef t i=true
 ·refine' walkW (zE hr @if_true.{1}) (za zbK <| za z7 <| za zba <| za zbJ <| za zbo <| za zaF <| zb _)
  rw [eget,if_pos hr]
 have hr:eRef t i=false:=by simpa using hr
 have hif:∀ (a b:Int),(if eRef t i=true then a else b)=b:=fun a b=>by rw [if_neg (by rw [hr];exact Bool.false_ne_true)]
 obtain ⟨⟨ht0,ht1⟩,hi0,hi1⟩:=ziB hr
 obtain ⟨A,hA⟩:∃A,A=96+2*t+i / 8:=⟨_,rfl⟩
 have hrg0:eget d p t i=if (plook d p A).2≠0 then (⟨0,0⟩,(plook d p A).2) else entT (((plook d p A).1.take (i % 8*8+8).toNat).drop (i % 8*8).toNat):=by
  rw [eget,if_neg (by rw [hr];exact Bool.false_ne_true),hA]
 by_cases he:(plook d p A).2=0
 ·have hb:((plook d p A).2 !=0)=false:=by simpa using he
  have h64:=zb8 h he
  rw [if_neg (by simpa using he)] at hrg0
  obtain ⟨S,hS⟩:∃S,S=((plook d p A).1.drop (i % 8*8).toNat).take 8:=⟨_,rfl⟩
  have hS2:((plook d p A).1.take (i % 8*8+8).toNat).drop (i % 8*8).toNat=S:=by
   rw [List.drop_take,hS,show (i % 8*8+8).toNat - (i % 8*8).toNat=8 by omega]
  rw [hS2] at hrg0
  have hSl:S.length=8:=by rw [hS,List.length_take,List.length_drop];omega
  rw [zqr S hSl] at hrg0
  have hnl:=zcE (l:=S) (i:=8) (by omega)
  have ht8:=zdO (s:=(plook d p A).1.drop (i % 8*8).toNat) (z:=8) 8 rfl (by omega) (by omega) (by rw [List.length_drop];omega)
  rw [← hS] at ht8
  obtain ⟨n,hn⟩:∃n,n=takeN S:=⟨_,rfl⟩
  rw [← hn] at ht8 hrg0 hnl
  have hsh:=zqp n
  have had:=zqq n (by omega)
  have hw1:IntKind.i64.wrap ((n / 72057594037927936:Nat):Int)=((n / 72057594037927936:Nat):Int):=zi (by omega) (by omega)
  have hw2:IntKind.i64.wrap ((n % 72057594037927936:Nat):Int)=((n % 72057594037927936:Nat):Int):=zi (by omega) (by omega)
  have hld:((plook d p A).1.drop (i % 8*8).toNat).length≤64:=by rw [List.length_drop];omega
  have htk:List.take (plook d p A).1.length (plook d p A).1=(plook d p A).1:=List.take_length
  obtain ⟨x,hx⟩:∃x:Ent2,x=⟨((n / 72057594037927936:Nat):Int),((n % 72057594037927936:Nat):Int)⟩:=⟨_,rfl⟩
  rw [← hx] at hrg0
  have hx1:((n / 72057594037927936:Nat):Int)=x.kind:=by rw [hx]
  have hx2:((n % 72057594037927936:Nat):Int)=x.loc:=by rw [hx]
  rw [hx1] at hw1 hsh
  rw [hx2] at hw2 had
  refine' walkW (zY hif hA.symm hb ht8 htk (za4 hsh had hw1 hw2)) (za zbK <| za z7 <| za zba <| za zbJ <| za zbo <| za zaF <| zb _)
  all_goals (rw [hrg0];simp_all;done)
 ·have hb:((plook d p A).2 !=0)=true:=by simpa using he
  rw [if_pos he] at hrg0
  refine' walkW (zN hif hA.symm hb) (za zbK <| za z7 <| za zba <| za zbJ <| za zbo <| za zaF <| zb _)
  rw [hrg0]
@[go_sem] noncomputable def zbc:Ent Tryz.prog 68:= .m4 zv zH (intT .i64) (intT .i64) zrW
theorem zrX (d:Disk) (p:Plan) (t i:Int) (x:Ent2) (h:DP d p):AC 180 [diskA d,planA p,.d (.int .i64 t),.d (.int .i64 i),entA x] (.tup [planA (eset d p t i x).1,.d (.int .i64 (eset d p t i x).2)]):=by
 refine fbod Tryz.func180 Tryz.ntmps180 (fun base=>?_)
 have h1:=h.dok
 have h2:=h.puts
 have h3:=h.p
 by_cases hr:eRef t i=true
 ·refine' walkW (zE hr @if_true.{1}) (za zbK <| za z7 <| za zba <| za zbJ <| za zbo <| za zaF <| zb _)
  rw [eset,if_pos hr]
 have hr:eRef t i=false:=by simpa using hr
 have hif:∀ (a b:Int),(if eRef t i=true then a else b)=b:=fun a b=>by rw [if_neg (by rw [hr];exact Bool.false_ne_true)]
 obtain ⟨⟨ht0,ht1⟩,hi0,hi1⟩:=ziB hr
 by_cases hx:entOk x=true
 ·have hl:=zfG x
  refine' walkW (zN hif hx hl) (za zbK <| za z7 <| za zba <| za zbJ <| za zbo <| za zaF <| zb _)
  rw [eset,if_neg (by rw [hr];exact Bool.false_ne_true),if_neg (by rw [hx];exact fun h=>by cases h)]
 ·have hx:entOk x=false:=by simpa using hx
  refine' walkW (zE hif hx) (za zbK <| za z7 <| za zba <| za zbJ <| za zbo <| za zaF <| zb _)
  rw [eset,if_neg (by rw [hr];exact Bool.false_ne_true),if_pos hx]
@[go_sem] noncomputable def zbY:Ent Tryz.prog 180:= .m5 zv zH (intT .i64) (intT .i64) zgE zrX
theorem zqs (d:Disk) (p:Plan) (l1 g:Int) (h:DP d p):AC 25 [diskA d,planA p,.d (.int .i64 l1),.d (.int .i64 g)] (.tup [entA (elook d p l1 g).1,.d (.int .i64 (elook d p l1 g).2)]):=by
 refine fbod Tryz.func25 Tryz.ntmps25 (fun base=>?_)
 by_cases hg:g<0∨64≤g
 ·have hdec:(decide (g<0)||decide (64≤g))=true:=by simpa using hg
  refine' walkW hdec (za zbc <| zb _)
  rw [elook,if_pos hg]
 ·have hdec:(decide (g<0)||decide (64≤g))=false:=by simpa using hg
  have hw1:IntKind.i64.wrap (g.tdiv 16)=g / 16:=by rw [Int.tdiv_eq_ediv_of_nonneg (by omega),zi (by omega) (by omega)]
  have hw2:g.tmod 16=g % 16:=Int.tmod_eq_emod_of_nonneg (by omega)
  refine' walkW (zN hdec hw1 hw2) (za zbc <| zb _)
  all_goals (rw [elook,if_neg hg];by_cases e1:(eget d p l1 (g / 16)).2=0<;>by_cases e2:(eget d p l1 (g / 16)).1.kind=2<;>by_cases e3:(eget d p l1 (g / 16)).1.kind=0<;>simp_all;done)
@[go_sem] noncomputable def zB:Ent Tryz.prog 25:= .m4 zv zH (intT .i64) (intT .i64) zqs
open Go Go.Proofs
theorem zmR (p:Plan) (i:Int) (_:True):AC 194 [planA p,.d (.int .i64 i)] (.tup [.d (.str z64),.d (.int .i64 0)]):=by
 refine bod Tryz.func194 Tryz.ntmps194 (fun base=>?_)
 refine' walkW fx (za zaT <| za zbf <| za z7 <| zb _)
 rfl
@[go_sem] noncomputable def zaV:Ent Tryz.prog 194:= .m2 zH (intT .i64) zmR
theorem zoG (q:Plan) (i:Int) (d:Disk) (a:Int) (hd:DiskOk d) (hq:PlanOk q) (hl:q.targets.length=q.texts.length) (h0:0≤a) (h1:a<256) (h2:0≤i) (h3:i<2):ACall Tryz.prog 196 0 [planA q,.d (.int .i64 i),.dp (diskC d),.dp [.d (.int .i64 a)]] [] (fun r _=>r= .tup [.d (.str (plook d q (96+2*a+i)).1),.d (.int .i64 (plook d q (96+2*a+i)).2)]):=by
 refine bod Tryz.func196 Tryz.ntmps196 (fun base=>?_)
 have hw1:IntKind.i64.wrap (96+2*a+i)=96+2*a+i:=zi (by omega) (by omega)
 refine' walkW hw1 (za zaT <| za zbf <| za z7 <| zb _)
@[go_sem] noncomputable def zbh:Ent Tryz.prog 196:= .ofL (consL zH (consL (intT .i64) (consL znM (consL (dpT (consL (intT .i64) nilL) (fun p=>p) (fun p=>p) (fun _=>rfl)) nilL)))) (fun (q,i,d,(a,_),_)=>(DiskOk d)∧(PlanOk q)∧(q.targets.length=q.texts.length)∧(0≤a)∧(a<256)∧(0≤i)∧(i<2)) (fun (q,i,d,(a,_),_)=> .tup [.d (.str (plook d q (96+2*a+i)).1),.d (.int .i64 (plook d q (96+2*a+i)).2)]) (fun (q,i,d,(a,_),_) hp=>⟨rfl,zoG q i d a hp.1 hp.2.1 hp.2.2.1 hp.2.2.2.1 hp.2.2.2.2.1 hp.2.2.2.2.2.1 hp.2.2.2.2.2.2⟩)
theorem zoH (p:Plan) (t:Int) (hp:pfit p=true) (ht0:0≤t) (ht1:t<256):ACall Tryz.prog 193 0 [planA p,.d (.int .i64 t),.fn (.func 194) [] []] [] (fun r _=>r= .tup [planA (za5 p t (fun _ _=>(z64,0)) 2 0 p).1,.d (.int .i64 (za5 p t (fun _ _=>(z64,0)) 2 0 p).2)]):=by
 refine fbod Tryz.func193 Tryz.ntmps193 (fun base=>?_)
 obtain ⟨f,hf⟩:∃f:Plan→Int→Txt×Int,f=fun _ _=>(z64,0):=⟨_,rfl⟩
 rw [← hf]
 refine' walkW fx (za zaV <| za zbh <| za zbf <| za zbU <| zb _)
 refine zC (fun q: { q:Nat×Plan // q.1≤2∧pfit q.2=true∧za5 p t f 2 0 p=za5 p t f (2 - q.1) q.1 q.2 } =>⟨[(1,true,.d (.int .i64 t)),(2,true,.fn (.func 194) [] []),(3,true,.vp 0 0),(6,true,.vp 1 0),(8,true,.vp 2 0),(13,true,.d (.int .i64 q.1.1))],[(2,(.var [.d (.sl 1 (q.1.2.targets.map intD)),.d (.sl 1 (q.1.2.texts.map strD))])),(1,.var [.nils 1,.nils 1]),(0,(.var [.d (.sl 1 (p.targets.map intD)),.d (.sl 1 (p.texts.map strD))]))],some []⟩) (fun q=>2 - q.1.1) ⟨(0,p),Nat.zero_le 2,hp,rfl⟩ le1 (fun q=>?_)
 obtain ⟨⟨i,q⟩,hi,hq,hf2⟩:=q
 simp only at hi hq hf2 ⊢
 have hqo:=PlanOk.of hq
 obtain ⟨hql,hq24,_⟩:=zau hq
 rcases Nat.lt_or_ge i 2 with hlt|hge
 ·have hcmp:decide ((i:Int)<2)=true:=decide_eq_true (by omega)
  have hwi:=zG (i:=i) (by omega)
  have hw1:IntKind.i64.wrap (96+2*t+(i:Int))=96+2*t+i:=zi (by omega) (by omega)
  rw [zhN p t f i q hlt] at hf2
  have hf0:f q i=(z64,0):=by rw [hf]
  simp only [hf0] at hf2
  rw [if_neg (show ¬(0:Int)≠0 by decide)] at hf2
  refine' walkW (zE hcmp hw1) (za zaV <| za zbh <| za zbf <| za zbU <| zb _)
  ·have hc:(pset q (96+2*t+i) z64).2≠0:=by simpa using hc
   rw [hf2,if_pos hc]
  ·have hc:¬(pset q (96+2*t+i) z64).2≠0:=by simpa using hc
   rw [if_neg hc] at hf2
   exact ⟨⟨(i+1,(pset q (96+2*t+i) z64).1),by omega,zcH hq,hf2⟩,lew,by simp;omega⟩
 ·have hcmp:decide ((i:Int)<2)=false:=decide_eq_false (by omega)
  refine' walkW hcmp (za zaV <| za zbh <| za zbf <| za zbU <| zb _)
  rw [hf2,show 2 - i=0 by omega]
  rfl
@[go_sem] noncomputable def zgK:Ent Tryz.prog 193:= .ofL (consL zH (consL (intT .i64) (consL (fnT 194 nilL) nilL))) (fun (p,t,_,_)=>(pfit p=true)∧(0≤t)∧(t<256)) (fun (p,t,_,_)=> .tup [planA (za5 p t (fun _ _=>(z64,0)) 2 0 p).1,.d (.int .i64 (za5 p t (fun _ _=>(z64,0)) 2 0 p).2)]) (fun (p,t,_,_) hp=>⟨rfl,zoH p t hp.1 hp.2.1 hp.2.2⟩)
theorem zoI (p:Plan) (t:Int) (d:Disk) (a:Int) (h:DP d p) (ht0:0≤t) (ht1:t<256) (h0:0≤a) (h1:a<256):ACall Tryz.prog 193 4 [planA p,.d (.int .i64 t),.fn (.func 196) [] [.vp 0 0,.vp 2 0]] [(3,.var [.nils 1,.nils 1]),(2,.var [.d (.int .i64 a)]),(1,(.var [.d (.sl 1 (p.targets.map intD)),.d (.sl 1 (p.texts.map strD))])),(0,(.var [.d (.str d.data),.d (.sl 2 (d.cache.map putD)),.d (.int .i64 d.fuse),.d (.bool d.off),.d (.sl 1 (d.bad.map intD))]))] (fun r h'=>r= .tup [planA (za5 p t (fun q i=>plook d q (96+2*a+i)) 2 0 p).1,.d (.int .i64 (za5 p t (fun q i=>plook d q (96+2*a+i)) 2 0 p).2)]∧h'= [(3,.var [.nils 1,.nils 1]),(2,.var [.d (.int .i64 a)]),(1,(.var [.d (.sl 1 (p.targets.map intD)),.d (.sl 1 (p.texts.map strD))])),(0,(.var [.d (.str d.data),.d (.sl 2 (d.cache.map putD)),.d (.int .i64 d.fuse),.d (.bool d.off),.d (.sl 1 (d.bad.map intD))]))]):=by
 refine zO (fun i=>decide (i<4)) ?_
 refine bod Tryz.func193 Tryz.ntmps193 (fun base=>?_)
 have hp:=h.p
 have hdo:=h.dok
 obtain ⟨f,hf⟩:∃f:Plan→Int→Txt×Int,f=fun q i=>plook d q (96+2*a+i):=⟨_,rfl⟩
 rw [← hf]
 refine' walkW fx (za zaV <| za zbh <| za zbf <| za zbU <| zb _)
 refine zC (fun q: { q:Nat×Plan // q.1≤2∧pfit q.2=true∧za5 p t f 2 0 p=za5 p t f (2 - q.1) q.1 q.2 } =>⟨[(1,true,.d (.int .i64 t)),(2,true,.fn (.func 196) [] [.vp 0 0,.vp 2 0]),(3,true,.vp 4 0),(6,true,.vp 5 0),(8,true,.vp 6 0),(13,true,.d (.int .i64 q.1.1))],[(6,(.var [.d (.sl 1 (q.1.2.targets.map intD)),.d (.sl 1 (q.1.2.texts.map strD))])),(5,.var [.nils 1,.nils 1]),(4,(.var [.d (.sl 1 (p.targets.map intD)),.d (.sl 1 (p.texts.map strD))])),(3,.var [.nils 1,.nils 1]),(2,.var [.d (.int .i64 a)]),(1,(.var [.d (.sl 1 (p.targets.map intD)),.d (.sl 1 (p.texts.map strD))])),(0,(.var [.d (.str d.data),.d (.sl 2 (d.cache.map putD)),.d (.int .i64 d.fuse),.d (.bool d.off),.d (.sl 1 (d.bad.map intD))]))],some []⟩) (fun q=>2 - q.1.1) ⟨(0,p),Nat.zero_le 2,hp,rfl⟩ le1 (fun q=>?_)
 obtain ⟨⟨i,q⟩,hi,hq,hf2⟩:=q
 simp only at hi hq hf2 ⊢
 have hqo:=PlanOk.of hq
 obtain ⟨hql,hq24,_⟩:=zau hq
 have hdq:DP d q:=⟨h.d,hq⟩
 rcases Nat.lt_or_ge i 2 with hlt|hge
 ·have hcmp:decide ((i:Int)<2)=true:=decide_eq_true (by omega)
  have hwi:=zG (i:=i) (by omega)
  have hw1:IntKind.i64.wrap (96+2*t+(i:Int))=96+2*t+i:=zi (by omega) (by omega)
  rw [zhN p t f i q hlt] at hf2
  have hf0:f q i=plook d q (96+2*a+i):=by rw [hf]
  simp only [hf0] at hf2
  by_cases he:(plook d q (96+2*a+i)).2=0
  ·have hb:((plook d q (96+2*a+i)).2 !=0)=false:=by simpa using he
   have h64:=zb8 hdq he
   rw [if_neg (by simpa using he)] at hf2
   refine' walkW (zN hcmp hw1 hb) (za zaV <| za zbh <| za zbf <| za zbU <| zb _)
   ·have hc:(pset q (96+2*t+i) (plook d q (96+2*a+i)).1).2≠0:=by simpa using hc
    rw [if_pos hc] at hf2
    rw [hf2]
   ·have hc:¬(pset q (96+2*t+i) (plook d q (96+2*a+i)).1).2≠0:=by simpa using hc
    rw [if_neg hc] at hf2
    exact ⟨⟨(i+1,(pset q (96+2*t+i) (plook d q (96+2*a+i)).1).1),by omega,zcH hq,hf2⟩,lew,by simp;omega⟩
  ·have hb:((plook d q (96+2*a+i)).2 !=0)=true:=by simpa using he
   rw [if_pos (by simpa using he)] at hf2
   refine' walkW (zE hcmp hb) (za zaV <| za zbh <| za zbf <| za zbU <| zb _)
   rw [hf2]
 ·have hcmp:decide ((i:Int)<2)=false:=decide_eq_false (by omega)
  refine' walkW hcmp (za zaV <| za zbh <| za zbf <| za zbU <| zb _)
  rw [hf2,show 2 - i=0 by omega]
  rfl
theorem zoJ (p:Plan) (t:Int) (hp:pfit p=true):AC 173 [planA p,.d (.int .i64 t)] (.tup [planA (eblank p t).1,.d (.int .i64 (eblank p t).2)]):=by
 refine fbod Tryz.func173 Tryz.ntmps173 (fun base=>?_)
 by_cases hk:zF t=true
 ·obtain ⟨ht0,ht1⟩:=hostOk_iff.1 hk
  have hbl:eblank p t=za5 p t (fun _ _=>(z64,0)) 2 0 p:=by rw [eblank,if_neg (by rw [hk];exact fun h=>by cases h)]
  refine' walkW hk (za zbX <| za zgK <| zb _)
  rw [hbl]
 ·have hk:zF t=false:=by simpa using hk
  refine' walkW hk (za zbX <| za zgK <| zb _)
  rw [eblank,if_pos hk]
@[go_sem] noncomputable def zaW:Ent Tryz.prog 173:= .m2 zH (intT .i64) zoJ
theorem zqt (d:Disk) (p:Plan) (a t:Int) (h:DP d p):AC 176 [diskA d,planA p,.d (.int .i64 a),.d (.int .i64 t)] (.tup [planA (ecopy d p a t).1,.d (.int .i64 (ecopy d p a t).2)]):=by
 refine fbod Tryz.func176 Tryz.ntmps176 (fun base=>?_)
 by_cases hk:zF a=false∨zF t=false
 ·have hdec:(!zF a|| !zF t)=true:=by simpa using hk
  refine' walkW hdec (za zbX <| zb _)
  rw [ecopy,if_pos hk]
 ·have hdec:(!zF a|| !zF t)=false:=by simpa using hk
  have hcp:ecopy d p a t=za5 p t (fun q i=>plook d q (96+2*a+i)) 2 0 p:=by rw [ecopy,if_neg hk]
  simp only [not_or,Bool.not_eq_false] at hk
  obtain ⟨ha0,ha1⟩:=hostOk_iff.1 hk.1
  obtain ⟨ht0,ht1⟩:=hostOk_iff.1 hk.2
  refine' walkW (zN hdec hk.1 hk.2) (za zbX <| zb _)
  refine ((zoI p t d a h ht0 ht1 ha0 ha1).whole (zM rfl) (by omega) (by rintro r h' ⟨_,rfl⟩ i hi;exact hi)).mono ?_
  rintro r h' ⟨rfl,rfl⟩
  simp only [go_sem,aeq,aeq.aeqF,simprocAttr]
  refine' walkW fx (za zbX <| zb _)
  rw [hcp]
@[go_sem] noncomputable def zbp:Ent Tryz.prog 176:= .m4 zv zH (intT .i64) (intT .i64) zqt
open Go Go.Proofs
def pfill (d:Disk) (p:Plan) (fr k:Int):Plan×Int:=if fr<0 then eblank p k else ecopy d p fr k
def pless (d:Disk) (p:Plan) (fr:Int):Plan×Int:=if fr<0 then (p,0) else radd d p fr (-1)
def pfresh (d:Disk) (p:Plan) (g:Geom) (l1 i fr:Int):Plan×Int×Int:=
 if (rtake d p g).2.2≠0 then (p,0,(rtake d p g).2.2)
 else if (pfill d (rtake d p g).1 fr (rtake d p g).2.1).2≠0 then (p,0,(pfill d (rtake d p g).1 fr (rtake d p g).2.1).2)
 else if (pless d (pfill d (rtake d p g).1 fr (rtake d p g).2.1).1 fr).2≠0 then (p,0,(pless d (pfill d (rtake d p g).1 fr (rtake d p g).2.1).1 fr).2)
 else if (eset d (pless d (pfill d (rtake d p g).1 fr (rtake d p g).2.1).1 fr).1 l1 i ⟨1,(rtake d p g).2.1⟩).2≠0 then (p,0,(eset d (pless d (pfill d (rtake d p g).1 fr (rtake d p g).2.1).1 fr).1 l1 i ⟨1,(rtake d p g).2.1⟩).2)
 else ((eset d (pless d (pfill d (rtake d p g).1 fr (rtake d p g).2.1).1 fr).1 l1 i ⟨1,(rtake d p g).2.1⟩).1,(rtake d p g).2.1,0)
def pown2 (d:Disk) (p:Plan) (g:Geom) (l1 i:Int):Plan×Int×Int:=
 if (eget d p l1 i).2≠0 then (p,0,(eget d p l1 i).2) else if (eget d p l1 i).1.kind=2 then (p,0,14)
 else if (eget d p l1 i).1.kind=0 then pfresh d p g l1 i (-1) else if (rget d p (eget d p l1 i).1.loc).2≠0 then (p,0,(rget d p (eget d p l1 i).1.loc).2)
 else if (rget d p (eget d p l1 i).1.loc).1≤1 then (p,(eget d p l1 i).1.loc,0) else pfresh d p g l1 i (eget d p l1 i).1.loc
def pown (d:Disk) (p:Plan) (g:Geom) (guest:Int):Plan×Int×Int:=
 if guest<0∨g.guest≤guest then (p,0,10) else if (zk d p).2≠0 then (p,0,(zk d p).2) else pown2 d p g (zk d p).1.l1 (guest / 16)
def zdR (d:Disk) (p q:Plan) (t i:Int) (x:Ent2):Plan×Int:=
  if (eget d q t i).2≠0 then (p,(eget d q t i).2)
  else if (eget d q t i).1.kind=1 then
    (if (radd d q (eget d q t i).1.loc (-1)).2≠0 then (p,(radd d q (eget d q t i).1.loc (-1)).2)
     else if (eset d (radd d q (eget d q t i).1.loc (-1)).1 t i x).2≠0 then (p,(eset d (radd d q (eget d q t i).1.loc (-1)).1 t i x).2) else ((eset d (radd d q (eget d q t i).1.loc (-1)).1 t i x).1,0))
  else if (eset d q t i x).2≠0 then (p,(eset d q t i x).2) else ((eset d q t i x).1,0)
def ppoint (d:Disk) (p:Plan) (g:Geom) (guest:Int) (x:Ent2):Plan×Int:=
 if (pown d p g guest).2.2≠0 then (p,(pown d p g guest).2.2) else zdR d p (pown d p g guest).1 (pown d p g guest).2.1 (guest % 16) x
theorem DP.pfill {d:Disk} {p:Plan} (h:DP d p) (a b:Int):DP d (pfill d p a b).1:=by unfold Aw.pfill;split;exact h.eblank _;exact h.ecopy _ _
theorem DP.pless {d:Disk} {p:Plan} (h:DP d p) (a:Int):DP d (pless d p a).1:=by unfold Aw.pless;split;exact h;exact h.radd _ _
theorem DP.pfresh {d:Disk} {p:Plan} (h:DP d p) (g:Geom) (l1 i fr:Int):DP d (pfresh d p g l1 i fr).1:=by
 unfold Aw.pfresh
 split
 ·exact h
 split
 ·exact h
 split
 ·exact h
 split
 ·exact h
 ·exact (((h.rtake g).pfill _ _).pless _).eset _ _ _
theorem DP.pown {d:Disk} {p:Plan} (h:DP d p) (g:Geom) (guest:Int):DP d (pown d p g guest).1:=by
 unfold Aw.pown
 split
 ·exact h
 split
 ·exact h
 unfold Aw.pown2
 split
 ·exact h
 split
 ·exact h
 split
 ·exact h.pfresh _ _ _ _
 split
 ·exact h
 split
 ·exact h
 ·exact h.pfresh _ _ _ _
theorem DP.ppoint {d:Disk} {p:Plan} (h:DP d p) (g:Geom) (guest:Int) (x:Ent2):DP d (ppoint d p g guest x).1:=by
 have ho:=h.pown g guest
 unfold Aw.ppoint
 split
 ·exact h
 unfold zdR
 split
 ·exact h
 split
 ·split
  ·exact h
  split
  ·exact h
  ·exact (ho.radd _ _).eset _ _ _
 ·split
  ·exact h
  ·exact ho.eset _ _ _
open Go Go.Proofs
open Go Go.Proofs
def zbV (d:Disk) (p:Plan) (t:Int):Nat→Int→List Int→List Int×Int
 |0,_,l=>(l,0)
 |m+1,k,l=>if (eget d p t k).2≠0 then ([],(eget d p t k).2) else zbV d p t m (k+1) (if (eget d p t k).1.kind=1 then l++ [(eget d p t k).1.loc] else l)
def zc1 (d:Disk) (p:Plan) (l1:Int):Nat→Int→List Int→List Int×Int
 |0,_,l=>(l,0)
 |m+1,i,l=>if (eget d p l1 i).2≠0 then ([],(eget d p l1 i).2) else if (eget d p l1 i).1.kind=2 then ([],14)
  else if (eget d p l1 i).1.kind=0 then zc1 d p l1 m (i+1) l
  else if (zbV d p (eget d p l1 i).1.loc 16 0 (l++ [(eget d p l1 i).1.loc])).2≠0 then ([],(zbV d p (eget d p l1 i).1.loc 16 0 (l++ [(eget d p l1 i).1.loc])).2)
  else zc1 d p l1 m (i+1) (zbV d p (eget d p l1 i).1.loc 16 0 (l++ [(eget d p l1 i).1.loc])).1
def reach (d:Disk) (p:Plan) (l1:Int):List Int×Int:=zc1 d p l1 4 0 []
theorem zor {m n:Nat} (h:m<n):n - m=(n - (m+1))+1:=by omega
theorem zkD (d:Disk) (p:Plan) (l1:Int) (h:DP d p):AC 56 [diskA d,planA p,.d (.int .i64 l1)] (.tup [.d (.sl 1 ((reach d p l1).1.map intD)),.d (.int .i64 (reach d p l1).2)]):=by
 refine fbod Tryz.func56 Tryz.ntmps56 (fun base=>?_)
 refine' walkW fx (za zbg <| zb _)
 refine zdf 8 1 rfl ?_
 simp only [fresh,top,hget, ↓reduceIte]
 refine zC (fun q: { q:Nat×List Int // q.1≤4∧q.2.length≤17*q.1∧reach d p l1=zc1 d p l1 (4 - q.1) q.1 q.2 } =>⟨[(2,true,.d (.int .i64 l1)),(3,true,.vp 0 0),(4,true,.vp 1 0),(8,true,.osl 2 1 q.1.2.length 0 q.1.2.length),(9,true,.d (.int .i64 q.1.1))],[(2,.arr 1 (q.1.2.map intD)),(1,(.var [.d (.sl 1 (p.targets.map intD)),.d (.sl 1 (p.texts.map strD))])),(0,(.var [.d (.str d.data),.d (.sl 2 (d.cache.map putD)),.d (.int .i64 d.fuse),.d (.bool d.off),.d (.sl 1 (d.bad.map intD))]))],some []⟩) (fun q=>4 - q.1.1) ⟨(0,[]),Nat.zero_le 4,Nat.zero_le 0,rfl⟩ le1 (fun q=>?_)
 obtain ⟨⟨i,l⟩,hi,hll,hf⟩:=q
 simp only at hi hll hf ⊢
 rcases Nat.lt_or_ge i 4 with hlt|hge
 ·have hcmp:decide ((i:Int)<4)=true:=decide_eq_true (by omega)
  have hwi:=zG (i:=i) (by omega)
  rw [zor hlt,zc1] at hf
  obtain ⟨X,hX⟩:∃X,X=eget d p l1 i:=⟨_,rfl⟩
  rw [← hX] at hf
  refine' walkW (zE hcmp hX.symm) (za zbg <| zb _)
  ·have hc:X.2≠0:=by simpa using hc
   rw [hf,if_pos hc]
   rfl
  ·rename_i c0
   have c0:¬X.2≠0:=by simpa using c0
   have hc:X.1.kind=2:=by simpa using hc
   rw [hf,if_neg c0,if_pos hc]
   rfl
  ·rename_i c0 c1
   have c0:¬X.2≠0:=by simpa using c0
   have c1:¬X.1.kind=2:=by simpa using c1
   have hc:X.1.kind=0:=by simpa using hc
   rw [if_neg c0,if_neg c1,if_pos hc] at hf
   exact ⟨⟨(i+1,l),by omega,by simp only;omega,hf⟩,lew,by simp;omega⟩
  rename_i c0 c1
  have c0:¬X.2≠0:=by simpa using c0
  have c1:¬X.1.kind=2:=by simpa using c1
  have c2:¬X.1.kind=0:=by simpa using hc
  clear hc
  rw [if_neg c0,if_neg c1,if_neg c2] at hf
  obtain ⟨M,hM⟩:∃M,M=l++ [X.1.loc]:=⟨_,rfl⟩
  have hMr:l.map intD++ [[D.int .i64 X.1.loc]]=M.map intD:=by rw [hM,List.map_append];rfl
  have hMl:l.length+1=M.length:=by rw [hM];simp
  rw [← hM] at hf
  obtain ⟨RJ,hRJ⟩:∃RJ,RJ=zbV d p X.1.loc 16 0 M:=⟨_,rfl⟩
  rw [← hRJ] at hf
  rw [hMr,hMl]
  refine zC (fun q: { q:Nat×List Int // q.1≤16∧q.2.length≤17*i+1+q.1∧RJ=zbV d p X.1.loc (16 - q.1) q.1 q.2 } =>⟨[(2,true,.d (.int .i64 l1)),(3,true,.vp 0 0),(4,true,.vp 1 0),(8,true,.osl 2 1 q.1.2.length 0 q.1.2.length),(9,true,.d (.int .i64 i)),(10,true,.vp 3 0),(12,true,.d (.int .i64 q.1.1))],[(3,.var [.d (.int .i64 X.1.kind),.d (.int .i64 X.1.loc)]),(2,.arr 1 (q.1.2.map intD)),(1,(.var [.d (.sl 1 (p.targets.map intD)),.d (.sl 1 (p.texts.map strD))])),(0,(.var [.d (.str d.data),.d (.sl 2 (d.cache.map putD)),.d (.int .i64 d.fuse),.d (.bool d.off),.d (.sl 1 (d.bad.map intD))]))],some []⟩) (fun q=>16 - q.1.1) ⟨(0,M),Nat.zero_le 16,by simp only;omega,hRJ⟩ le1 (fun q=>?_)
  obtain ⟨⟨k,m⟩,hk,hml,hfj⟩:=q
  simp only at hk hml hfj ⊢
  rcases Nat.lt_or_ge k 16 with hkt|hkge
  ·have hcmpk:decide ((k:Int)<16)=true:=decide_eq_true (by omega)
   have hwk:=zG (i:=k) (by omega)
   rw [zor hkt,zbV] at hfj
   obtain ⟨Y,hY⟩:∃Y,Y=eget d p X.1.loc k:=⟨_,rfl⟩
   rw [← hY] at hfj
   refine' walkW (zE hcmpk hY.symm) (za zbg <| zb _)
   ·have hc:Y.2≠0:=by simpa using hc
    rw [if_pos hc] at hfj
    rw [hf,hfj,if_pos hc]
    rfl
   ·rename_i c3
    have c3:¬Y.2≠0:=by simpa using c3
    have hc:Y.1.kind=1:=by simpa using hc
    rw [if_neg c3,if_pos hc] at hfj
    exact ⟨⟨(k+1,m++ [Y.1.loc]),by omega,by simp only [List.length_append,List.length_singleton];omega,hfj⟩,by simp only [List.map_append,List.length_append,List.length_singleton];simp only [AS.le,leT,leH,zh,AsgK,AV.le,AV.leL,AObj.le,inH,idsT,idsH,AV.ids,AV.idsL,AV.idsR,AObj.ids,lk,hget,go_sem,aeq,aeq.aeqF,simprocAttr,hwk]<;>and_intros<;>rfl,by simp;omega⟩
   ·rename_i c3
    have c3:¬Y.2≠0:=by simpa using c3
    have hc:¬Y.1.kind=1:=by simpa using hc
    rw [if_neg c3,if_neg hc] at hfj
    exact ⟨⟨(k+1,m),by omega,by simp only;omega,hfj⟩,by simp only [AS.le,leT,leH,zh,AsgK,AV.le,AV.leL,AObj.le,inH,idsT,idsH,AV.ids,AV.idsL,AV.idsR,AObj.ids,lk,hget,go_sem,aeq,aeq.aeqF,simprocAttr,hwk],by simp;omega⟩
  ·have hcmpk:decide ((k:Int)<16)=false:=decide_eq_false (by omega)
   rw [show 16 - k=0 by omega,zbV] at hfj
   rw [hfj,if_neg (show ¬(0:Int)≠0 by decide)] at hf
   refine' walkW hcmpk (za zbg <| zb _)
   exact ⟨⟨(i+1,m),by omega,by simp only;omega,hf⟩,lew,by simp;omega⟩
 ·have hcmp:decide ((i:Int)<4)=false:=decide_eq_false (by omega)
  refine' walkW hcmp (za zbg <| zb _)
  rw [hf,show 4 - i=0 by omega]
  rfl
@[go_sem] noncomputable def z6:Ent Tryz.prog 56:= .m3 zv zH (intT .i64) zkD
open Go Go.Proofs
end Go.Aw
