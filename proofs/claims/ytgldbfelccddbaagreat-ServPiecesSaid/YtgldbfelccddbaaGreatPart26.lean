/-
 Parts of the proof: lemmas.
-/
import Derived.Test.YtgldbfelccddbaaGreatPart22
set_option maxRecDepth 100000
set_option maxHeartbeats 2000000
set_option linter.unusedSimpArgs false
set_option linter.unusedVariables false
namespace Go.Aw
open Go Go.Proofs
theorem ziJ {op:BinOp} {n m:Nat} (hn:n<65536) (hm:m<9223372036854775808):ibits .and .i64 (n:Int) (m:Int)=((n&&& m:Nat):Int)∧ibits .andNot .i64 (n:Int) (m:Int)=((BitVec.ofNat 64 n&&& ~~~BitVec.ofNat 64 m).toNat:Int):=by
 have e:∀k:Nat,BitVec.ofInt 64 (k:Int)=BitVec.ofNat 64 k:=fun k=>BitVec.ofInt_natCast 64 k
 have e1:(BitVec.ofNat 64 n&&& BitVec.ofNat 64 m).toNat=n&&& m:=by
  rw [BitVec.toNat_and,BitVec.toNat_ofNat,BitVec.toNat_ofNat,Nat.mod_eq_of_lt U,Nat.mod_eq_of_lt U]
 have h1:n&&& m≤n:=Nat.and_le_left
 have h2:(BitVec.ofNat 64 n&&& ~~~BitVec.ofNat 64 m).toNat≤n:=by
  rw [BitVec.toNat_and,BitVec.toNat_ofNat,Nat.mod_eq_of_lt U]
  exact Nat.and_le_left
 constructor
 ·show IntKind.i64.wrap ((BitVec.ofInt 64 (n:Int)&&& BitVec.ofInt 64 (m:Int)).toNat:Int)=_
  rw [e,e,e1,zi U U]
 ·show IntKind.i64.wrap ((BitVec.ofInt 64 (n:Int)&&& ~~~BitVec.ofInt 64 (m:Int)).toNat:Int)=_
  rw [e,e,zi U U]
theorem zuo {n i:Nat} (hn:n<65536) (hi:i<16):ibits .and .i64 (ishr .i64 (n:Int) i) 1=if n.testBit i then 1 else 0:=by
 have e1:ishr .i64 (n:Int) i=((n / 2 ^ i:Nat):Int):=by
  show (n:Int).fdiv (2 ^ (min (i:Int).toNat 64))=_
  rw [Int.toNat_natCast,Nat.min_eq_left U,Int.fdiv_eq_ediv_of_nonneg _ (Int.pow_nonneg ae)]
  norm_cast
 have hlt:n / 2 ^ i<65536:=Nat.lt_of_le_of_lt (Nat.div_le_self _ _) hn
 rw [e1,show (1:Int)=((1:Nat):Int) from rfl,(ziJ (op:= .and) hlt (m:=1) ae).1,Nat.and_one_is_mod,Nat.testBit_eq_decide_div_mod_eq]
 have:=Nat.mod_two_eq_zero_or_one (n / 2 ^ i)
 rcases this with e|e<;>rw [e]<;>rfl
theorem zmS {n m i:Nat} (hn:n<65536) (hm:m<65536) (hi:i<16):cbad1 n m i=(n.testBit i&& !m.testBit i):=by
 unfold cbad1
 rw [zuo hn hi,zuo hm hi]
 cases n.testBit i<;>cases m.testBit i<;>rfl
theorem zmT {f may:Int} :∀ (k i:Nat),cbadL f may i k=true↔ ∃j,i≤j∧j<i+k∧cbad1 f may j=true
 |0,i=>by simp only [cbadL];constructor;(· intro h;cases h);(· rintro ⟨j,h1,h2,_⟩;omega)
 | k+1,i=>by
  rw [cbadL,Bool.or_eq_true,zmT k (i+1)]
  constructor
  ·rintro (h|⟨j,h1,h2,h3⟩)
   ·exact ⟨i,Nat.le_refl _,U,h⟩
   ·exact ⟨j,U,U,h3⟩
  ·rintro ⟨j,h1,h2,h3⟩
   by_cases e:j=i
   ·exact .inl (e ▸ h3)
   ·exact .inr ⟨j,U,U,h3⟩
theorem zx7 {n m:Nat} (hn:n<65536) (hm:m<65536):(ibits .andNot .i64 (ibits .and .i64 (n:Int) 65535) (m:Int) !=0)=cbad n m:=by
 have e0:ibits .and .i64 (n:Int) 65535=(n:Int):=by
  have:=(ziJ (op:= .and) hn (m:=65535) ae).1
  rw [show ((65535:Nat):Int)=65535 from rfl] at this
  rw [this]
  have e:=Nat.and_two_pow_sub_one_eq_mod n 16
  rw [show (2:Nat) ^ 16 - 1=65535 from rfl] at e
  rw [e,Nat.mod_eq_of_lt (by exact hn)]
 rw [e0,(ziJ (op:= .and) hn (m:=m) U).2,Bool.eq_iff_iff,cbad,zmT]
 rw [bne_iff_ne]
 constructor
 ·intro h
  apply Classical.byContradiction
  intro hno
  apply h
  have:BitVec.ofNat 64 n&&& ~~~BitVec.ofNat 64 m=0#64:=by
   apply BitVec.eq_of_getLsbD_eq
   intro i hi
   rw [BitVec.getLsbD_and,BitVec.getLsbD_not,BitVec.getLsbD_ofNat,BitVec.getLsbD_ofNat,BitVec.getLsbD_zero]
   by_cases h16:i<16
   ·have hc:=zmS hn hm h16
    have:cbad1 n m i=false:=by
     cases hb:cbad1 n m i with
     |false=>rfl
     |true=>exact absurd ⟨i,Nat.zero_le _,U,hb⟩ hno
    rw [this] at hc
    simp only [hi,decide_true,Bool.true_and]
    exact hc.symm
   ·have:n.testBit i=false:=Nat.testBit_lt_two_pow (Nat.lt_of_lt_of_le hn (Nat.pow_le_pow_right (n:=2) (i:=16) ae U))
    simp [this]
  rw [this]
  rfl
 ·rintro ⟨j,_,h16,h⟩ hz
  rw [zmS hn hm U] at h
  have hz2:BitVec.ofNat 64 n&&& ~~~BitVec.ofNat 64 m=0#64:=BitVec.eq_of_toNat_eq cf
  have:=congrArg (fun b=>b.getLsbD j) hz2
  simp only [BitVec.getLsbD_and,BitVec.getLsbD_not,BitVec.getLsbD_ofNat,BitVec.getLsbD_zero] at this
  simp only [show j<64 by omega,decide_true,Bool.true_and] at this
  rw [this,Nat.zero_testBit] at h
  cases h
theorem zoH (kind:Int) (c:Bool):ACall Tryz.prog 138 0 [.d (.int .i64 kind),.d (.bool c)] [] (fun r _=>r= .d (.int .i64 (zb2 kind c))):=by
 by_cases h:0≤kind∧kind<8
 ·have h8:kind=0∨kind=1∨kind=2∨kind=3∨kind=4∨kind=5∨kind=6∨kind=7:=by omega
  rcases h8 with rfl|rfl|rfl|rfl|rfl|rfl|rfl|rfl<;>cases c<;>
  ·refine fbod Tryz.func138 Tryz.ntmps138 (fun base=>?_)
   refine' zc fx
   all_goals rfl
 ·have e:zb2 kind c= -1:=by
   unfold zb2
   rw [if_neg U,if_neg U,if_neg U,if_neg U,if_neg U]
  rw [e]
  have hc:(decide (kind<0)||decide (8≤kind))=true:=af
  refine fbod Tryz.func138 Tryz.ntmps138 (fun base=>?_)
  refine' zc hc
def zhy:List (Bool×Int)→Int
 | []=>0
 |r::l=>if r.1 then r.2 else zhy l
def ruleD (r:Bool×Int):List D:= [.bool r.1,.int .u32 r.2]
theorem zwx (l:List (Bool×Int)) (hl:l.length≤1000):ACall Tryz.prog 139 0 [.d (.sl 2 (l.map ruleD))] [] (fun r _=>r= .d (.int .u32 (zhy l))):=by
 refine fbod Tryz.func139 Tryz.ntmps139 (fun base=>?_)
 refine' zc fx
 refine zk (fun q: { i:Nat // i≤l.length∧zhy l=zhy (l.drop i) } =>⟨[(5,true,.d (.sl 2 (l.map ruleD))),(6,true,.d (.int .i64 l.length)),(7,true,.d (.int .i64 q.1))],[],some []⟩) (fun q=>l.length - q.1) ⟨0,Nat.zero_le _,rfl⟩ le1 (fun q=>?_)
 obtain ⟨i,hi,hf⟩:=q
 simp only at hi hf ⊢
 rcases zy ruleD l i hi with ⟨⟨b,m⟩,hq,hlt,hcmp,hrow,hdr,htk⟩|⟨hend,hcmp⟩
 ·simp only [ruleD] at hrow
  have hwi:=zn (i:=i) U
  rw [hdr,zhy] at hf
  cases b
  ·refine' zc (zj hcmp hrow)
   exact ⟨⟨i+1,U,hf⟩,lew,af⟩
  ·refine' zc (zj hcmp hrow)
   rw [hf];rfl
 ·subst hend
  rw [List.drop_length,zhy] at hf
  refine' zc hcmp
  rw [hf]
@[go_sem] noncomputable def zlk:Ent Tryz.prog 138:= .ofL (consL (intT .i64) (consL boolT nilL)) (fun (kind,c,_)=>True) (fun (kind,c,_)=> .d (.int .i64 (zb2 kind c))) (fun (kind,c,_) hp=>⟨rfl,zoH kind c⟩)
theorem zup (k:Int) (c:Bool):zb2 k c≤8:=by
 unfold zb2
 repeat' split
 all_goals omega
def chkL (q:Rq) (size:Int) (ch:Bool) (ms:List Int) (E:Int):List (Bool×Int):= [(decide (zb2 q.kind ch<0)||(ibits .andNot .i64 (ibits .and .i64 q.flags 65535) (zb2 q.kind ch) !=0),22),(q.kind==2,0),(q.kind==3&&(q.frm !=0||q.len !=0),22),(q.kind==3,0),(q.len==0,22),(decide (1024<q.len),75),(decide (size<q.frm)||decide (IntKind.u64.wrap (size - q.frm)<IntKind.u64.wrap q.len),E),(q.kind==7&&(!ch||((ms.length:Int)==0)),22)]
theorem zuq {q:Rq} {size:Int} {ch:Bool} {ms:List Int} {E:Int} (hE:E=if q.kind=1 then 28 else 22) (f0:0≤q.flags) (f1:q.flags<65536) (c0:0≤q.len) (c1:q.len<4294967296) (g0:0≤q.frm) (s1:size<18446744073709551616):zhy (chkL q size ch ms E)=zau q size ch ms:=by
 have hm:=zup q.kind ch
 unfold zau chkL
 simp only [zhy]
 by_cases h1:zb2 q.kind ch<0
 ·rw [if_pos h1,decide_eq_true h1];rfl
 rw [if_neg h1,decide_eq_false h1,Bool.false_or]
 have hb:=zx7 (n:=q.flags.toNat) (m:=(zb2 q.kind ch).toNat) U U
 rw [Int.toNat_of_nonneg f0,Int.toNat_of_nonneg U] at hb
 rw [hb]
 split
 ·rfl
 by_cases k2:q.kind=2
 ·rw [if_pos k2,if_pos (by simpa using k2)]
 rw [if_neg k2,if_neg (by simpa using k2)]
 by_cases k3:q.kind=3
 ·rw [if_pos k3,beq_iff_eq.mpr k3,Bool.true_and,if_pos rfl]
  by_cases hz:q.frm≠0∨q.len≠0
  ·rw [if_pos hz,if_pos cf]
  ·rw [if_neg hz,if_neg cf]
 rw [if_neg k3,beq_false_of_ne k3,Bool.false_and,if_neg ae,if_neg ae]
 by_cases l0:q.len=0
 ·rw [if_pos l0,if_pos (by simpa using l0)]
 rw [if_neg l0,if_neg (by simpa using l0)]
 by_cases l1:1024<q.len
 ·rw [if_pos l1,if_pos (by simpa using l1)]
 rw [if_neg l1,if_neg (by simpa using l1),zA c0 U]
 by_cases hs:size<q.frm
 ·rw [decide_eq_true hs,Bool.true_or,if_pos rfl,if_pos (Or.inl hs),hE]
 ·rw [decide_eq_false hs,Bool.false_or,zA U U]
  by_cases ht:size - q.frm<q.len
  ·rw [if_pos (decide_eq_true ht),if_pos (Or.inr ht),hE]
  ·rw [if_neg (show ¬decide (size - q.frm<q.len)=true by simpa using ht),if_neg (show ¬(size<q.frm∨size - q.frm<q.len) by omega)]
   by_cases h7:q.kind=7∧(ch=false∨ms.length=0)
   ·rw [if_pos h7]
    obtain ⟨e1,e2⟩:=h7
    rw [if_pos]
    rw [e1]
    rcases e2 with e2|e2<;>rw [e2]<;>simp
   ·rw [if_neg h7]
    rw [if_neg]
    intro e
    apply h7
    simp only [Bool.and_eq_true,Bool.or_eq_true,beq_iff_eq,Bool.not_eq_true'] at e
    exact ⟨e.1,e.2.imp id (fun e=>U)⟩
structure ChkOk (q:Rq):Prop where
 f0:0≤q.flags
 f1:q.flags<65536
 c0:0≤q.len
 c1:q.len<4294967296
 g0:0≤q.frm
def XpOk (x:Xp):Prop:=0≤x.size∧x.size<18446744073709551616
theorem zwy (q:Rq) (x:Xp) (n:Ng) (h:ChkOk q) (hx:XpOk x):ACall Tryz.prog 73 0 [rqA q,xpA x,ngA n] [] (fun r _=>r= .d (.int .u32 (zau q x.size n.chunks n.metas))):=by
 refine fbod Tryz.func73 Tryz.ntmps73 (fun base=>?_)
 refine' zga (zN 6) fx (za zlk <| zb _)
 all_goals
  refine zdW noTab (zb _) 71 3 (fun K hK=>?_)
  simp only [go_sem,aeq,aeq.aeqF,simprocAttr]
  refine ⟨fun h=>⟨h,fun h2=>by rw [h,h2];rfl⟩,fun h=>⟨h,fun h2=>by rw [h,h2];rfl⟩,_,rfl,?_⟩
  simp only [go_sem,aeq,aeq.aeqF,simprocAttr]
  refine (zaJ (zwx (chkL q x.size n.chunks n.metas _) (by simp [chkL]))).mono ?_
  rintro r h' ⟨rfl,rfl⟩
  simp only [go_sem,aeq,aeq.aeqF,simprocAttr]
  refine' zc fx
  rw [zuq _ h.f0 h.f1 h.c0 h.c1 h.g0 hx.2]
 ·exact (if_pos (beq_iff_eq.mp hc)).symm
 ·exact (if_neg ak).symm
@[go_sem] noncomputable def zft:Ent Tryz.prog 73:= .ofL (consL rqA_T (consL xpA_T (consL ngA_T nilL))) (fun (q,x,n,_)=>(ChkOk q)∧(XpOk x)) (fun (q,x,n,_)=> .d (.int .u32 (zau q x.size n.chunks n.metas))) (fun (q,x,n,_) hp=>⟨rfl,zwy q x n hp.1 hp.2⟩)
open Go Go.Proofs
theorem znj (q:Rq) (x:Xp) (n:Ng) (hp:RqOk q∧0≤x.size∧x.size<9223372036854775808∧n.metas.length≤9223372036854775807):AC 120 [rqA q,xpA x,ngA n] (.d (.int .u32 (zau q x.size n.chunks n.metas))):=by
 obtain ⟨h,h0,h1,hm⟩:=hp
 obtain ⟨size,names⟩:=x
 obtain ⟨ph,bu,br,ch,ms⟩:=n
 simp only at h0 h1 hm ⊢
 refine fbod Tryz.func120 Tryz.ntmps120 (fun base=>?_)
 obtain ⟨Z,hZ⟩:∃Z,Z=zau q size ch ms:=⟨_,rfl⟩
 rw [← hZ]
 rw [zau] at hZ
 have hl0:=h.l0
 have hl1:=h.l1
 have hf0:=h.f0
 have hf1:=h.f1
 have hw:IntKind.u64.wrap q.len=q.len:=zA U U
 obtain ⟨m,hmay⟩:∃m,m=zb2 q.kind ch:=⟨_,rfl⟩
 rw [← hmay] at hZ
 cases e0:decide (m<0) with
 |true=>
  refine' walkW (zj hmay.symm e0) (za zZ <| zb _)
  rw [hZ,if_pos (of_decide_eq_true e0)]
 |false=>
 rw [if_neg (of_decide_eq_false e0)] at hZ
 refine' walkW (zj hmay.symm e0) (za zZ <| zb _)
 refine zk (fun q': { i:Nat // i≤16∧cbad q.flags m=cbadL q.flags m i (16 - i) } =>⟨[(3,true,.vp 0 0),(4,true,.vp 1 0),(5,true,.vp 2 0),(7,true,.d (.int .i64 m)),(8,true,.d (.int .i64 q'.1))],[(2,.var [.d (.int .i64 ph),.d (.str bu),.d (.bool br),.d (.bool ch),.d (.sl 1 (ms.map u32D))]),(1,.var [.d (.int .u64 size),.d (.sl 1 (names.map strD))]),(0,.var [.d (.int .i64 q.flags),.d (.int .i64 q.kind),.d (.int .u64 q.cookie),.d (.int .u64 q.frm),.d (.int .u32 q.len),.d (.str q.data)])],some []⟩) (fun q'=>16 - q'.1) ⟨0,Nat.zero_le _,rfl⟩ le1 (fun q'=>?_)
 obtain ⟨i,hi,hf⟩:=q'
 simp only at hi hf ⊢
 rcases Nat.lt_or_ge i 16 with hlt|hge
 ·have hcmp:decide ((i:Int)<16)=true:=decide_eq_true U
  have hwi:=zn (i:=i) U
  rw [show 16 - i=(15 - i)+1 by omega,cbadL] at hf
  cases hb:cbad1 q.flags m i with
  |true=>
   have hb2:=hb
   unfold cbad1 at hb2
   rw [hb,Bool.true_or] at hf
   rw [if_pos hf] at hZ
   refine' walkW (zj hcmp hb2) (za zZ <| zb _)
   rw [hZ]
  |false=>
   have hb2:=hb
   unfold cbad1 at hb2
   rw [hb,Bool.false_or] at hf
   refine' walkW (zj hcmp hb2) (za zZ <| zb _)
   exact ⟨⟨i+1,U,by rw [hf,show 16 - (i+1)=15 - i by omega]⟩,lev,af⟩
 ·have hcmp:decide ((i:Int)<16)=false:=decide_eq_false U
  rw [show 16 - i=0 by omega,cbadL] at hf
  rw [hf,if_neg ae] at hZ
  cases e2:(q.kind==2) with
  |true=>
   refine' walkW (zj hcmp e2) (za zZ <| zb _)
   rw [hZ,if_pos (beqP e2)]
  |false=>
  rw [if_neg (beqN e2)] at hZ
  cases e3:(q.kind==3) with
  | true=>
   rw [if_pos (beqP e3)] at hZ
   cases e4:(q.frm !=0||q.len !=0) with
   |true=>
    refine' walkW (zE hcmp e2 e3 e4) (za zZ <| zb _)
    rw [hZ,if_pos (by simpa using e4)]
   |false=>
    refine' walkW (zE hcmp e2 e3 e4) (za zZ <| zb _)
    rw [hZ,if_neg (by simpa using e4)]
  |false=>
  rw [if_neg (beqN e3)] at hZ
  cases e5:(q.len==0) with
  |true=>
   refine' walkW (zE hcmp e2 e3 e5) (za zZ <| zb _)
   rw [hZ,if_pos (beqP e5)]
  |false=>
  rw [if_neg (beqN e5)] at hZ
  cases e6:decide (1024<q.len) with
  |true=>
   refine' walkW (zaB hcmp e2 e3 e5 e6) (za zZ <| zb _)
   rw [hZ,if_pos (of_decide_eq_true e6)]
  |false=>
  rw [if_neg (of_decide_eq_false e6)] at hZ
  have e7:(decide (size<q.frm)||decide (IntKind.u64.wrap (size - q.frm)<q.len))=decide (size<q.frm∨size - q.frm<q.len):=by
   rcases Int.lt_or_le size q.frm with h2|h2
   ·rw [decide_eq_true h2,decide_eq_true (Or.inl h2),Bool.true_or]
   ·rw [zA U U,decide_eq_false (by omega:¬size<q.frm),Bool.false_or]
    simp only [show ¬size<q.frm by omega,false_or]
  by_cases h7:size<q.frm∨size - q.frm<q.len
  ·rw [if_pos h7] at hZ
   rw [decide_eq_true h7] at e7
   cases e8:(q.kind==1) with
   |true=>
    refine' walkW (zo hcmp e2 e3 e5 e6 (zq hw e7 e8)) (za zZ <| zb _)
    rw [hZ,if_pos (beqP e8)]
   |false=>
    refine' walkW (zo hcmp e2 e3 e5 e6 (zq hw e7 e8)) (za zZ <| zb _)
    rw [hZ,if_neg (beqN e8)]
  ·rw [if_neg h7] at hZ
   rw [decide_eq_false h7] at e7
   cases e8:(q.kind==7) with
   |false=>
    refine' walkW (zo hcmp e2 e3 e5 e6 (zq hw e7 e8)) (za zZ <| zb _)
    rw [hZ,if_neg (fun h=>beqN e8 h.1)]
   |true=>
   cases ch with
   |false=>
    refine' walkW (zo hcmp e2 e3 e5 e6 (zq hw e7 e8)) (za zZ <| zb _)
    rw [hZ,if_pos ⟨beqP e8,.inl rfl⟩]
   | true=>
    cases e9:((ms.length:Int)==0) with
    |true=>
     refine' walkW (zo hcmp e2 e3 e5 e6 (zE hw e7 e8 e9)) (za zZ <| zb _)
     rw [hZ,if_pos ⟨beqP e8,.inr (by have:=beqP e9;omega)⟩]
    |false=>
     refine' walkW (zo hcmp e2 e3 e5 e6 (zE hw e7 e8 e9)) (za zZ <| zb _)
     rw [hZ,if_neg (fun h=>beqN e9 (by rcases h.2 with h|h;cases h;omega))]
@[go_sem] noncomputable def zcb:Ent Tryz.prog 120:= .m3 rqA_T xpA_T ngA_T znj
end Go.Aw
