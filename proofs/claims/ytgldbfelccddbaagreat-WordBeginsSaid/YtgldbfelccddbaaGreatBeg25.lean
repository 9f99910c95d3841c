/-
 Parts of the proof: lemmas.
-/
import Derived.Test.YtgldbfelccddbaaGreatBeg12
import Derived.Test.YtgldbfelccddbaaGreatBeg17
set_option maxRecDepth 100000
set_option maxHeartbeats 2000000
set_option linter.unusedSimpArgs false
set_option linter.unusedVariables false
namespace Go.Aw
open Go Go.Proofs
theorem zeO {op:BinOp} {n m:Nat} (hn:n<65536) (hm:m<9223372036854775808):ibits .and .i64 (n:Int) (m:Int)=((n&&& m:Nat):Int)∧ibits .andNot .i64 (n:Int) (m:Int)=((BitVec.ofNat 64 n&&& ~~~BitVec.ofNat 64 m).toNat:Int):=by
 have e:∀k:Nat,BitVec.ofInt 64 (k:Int)=BitVec.ofNat 64 k:=fun k=>BitVec.ofInt_natCast 64 k
 have e1:(BitVec.ofNat 64 n&&& BitVec.ofNat 64 m).toNat=n&&& m:=by
  rw [BitVec.toNat_and,BitVec.toNat_ofNat,BitVec.toNat_ofNat,Nat.mod_eq_of_lt (by omega),Nat.mod_eq_of_lt (by omega)]
 have h1:n&&& m≤n:=Nat.and_le_left
 have h2:(BitVec.ofNat 64 n&&& ~~~BitVec.ofNat 64 m).toNat≤n:=by
  rw [BitVec.toNat_and,BitVec.toNat_ofNat,Nat.mod_eq_of_lt (by omega)]
  exact Nat.and_le_left
 constructor
 ·show IntKind.i64.wrap ((BitVec.ofInt 64 (n:Int)&&& BitVec.ofInt 64 (m:Int)).toNat:Int)=_
  rw [e,e,e1,zf (by omega) (by omega)]
 ·show IntKind.i64.wrap ((BitVec.ofInt 64 (n:Int)&&& ~~~BitVec.ofInt 64 (m:Int)).toNat:Int)=_
  rw [e,e,zf (by omega) (by omega)]
theorem zma {n i:Nat} (hn:n<65536) (hi:i<16):ibits .and .i64 (ishr .i64 (n:Int) i) 1=if n.testBit i then 1 else 0:=by
 have e1:ishr .i64 (n:Int) i=((n / 2 ^ i:Nat):Int):=by
  show (n:Int).fdiv (2 ^ (min (i:Int).toNat 64))=_
  rw [Int.toNat_natCast,Nat.min_eq_left (by omega),Int.fdiv_eq_ediv_of_nonneg _ (Int.pow_nonneg (by decide))]
  norm_cast
 have hlt:n / 2 ^ i<65536:=Nat.lt_of_le_of_lt (Nat.div_le_self _ _) hn
 rw [e1,show (1:Int)=((1:Nat):Int) from rfl,(zeO (op:= .and) hlt (m:=1) (by decide)).1,Nat.and_one_is_mod,Nat.testBit_eq_decide_div_mod_eq]
 have:=Nat.mod_two_eq_zero_or_one (n / 2 ^ i)
 rcases this with e|e<;>rw [e]<;>rfl
theorem zhD {n m i:Nat} (hn:n<65536) (hm:m<65536) (hi:i<16):cbad1 n m i=(n.testBit i&& !m.testBit i):=by
 unfold cbad1
 rw [zma hn hi,zma hm hi]
 cases n.testBit i<;>cases m.testBit i<;>rfl
theorem zhE {f may:Int} :∀ (k i:Nat),cbadL f may i k=true↔ ∃j,i≤j∧j<i+k∧cbad1 f may j=true
 |0,i=>by simp only [cbadL];constructor;(· intro h;cases h);(· rintro ⟨j,h1,h2,_⟩;omega)
 | k+1,i=>by
  rw [cbadL,Bool.or_eq_true,zhE k (i+1)]
  constructor
  ·rintro (h|⟨j,h1,h2,h3⟩)
   ·exact ⟨i,Nat.le_refl _,by omega,h⟩
   ·exact ⟨j,by omega,by omega,h3⟩
  ·rintro ⟨j,h1,h2,h3⟩
   by_cases e:j=i
   ·exact .inl (e ▸ h3)
   ·exact .inr ⟨j,by omega,by omega,h3⟩
theorem zpq {n m:Nat} (hn:n<65536) (hm:m<65536):(ibits .andNot .i64 (ibits .and .i64 (n:Int) 65535) (m:Int) !=0)=cbad n m:=by
 have e0:ibits .and .i64 (n:Int) 65535=(n:Int):=by
  have:=(zeO (op:= .and) hn (m:=65535) (by decide)).1
  rw [show ((65535:Nat):Int)=65535 from rfl] at this
  rw [this]
  have e:=Nat.and_two_pow_sub_one_eq_mod n 16
  rw [show (2:Nat) ^ 16 - 1=65535 from rfl] at e
  rw [e,Nat.mod_eq_of_lt (by exact hn)]
 rw [e0,(zeO (op:= .and) hn (m:=m) (by omega)).2,Bool.eq_iff_iff,cbad,zhE]
 rw [bne_iff_ne]
 constructor
 ·intro h
  apply Classical.byContradiction
  intro hno
  apply h
  have:BitVec.ofNat 64 n&&& ~~~BitVec.ofNat 64 m=0#64:=by
   apply BitVec.eq_of_getLsbD_eq
   intro i hi
   rw [BitVec.getLsbD_and,BitVec.getLsbD_not,BitVec.getLsbD_ofNat,BitVec.getLsbD_ofNat,BitVec.getLsbD_zero]
   by_cases h16:i<16
   ·have hc:=zhD hn hm h16
    have:cbad1 n m i=false:=by
     cases hb:cbad1 n m i with
     |false=>rfl
     |true=>exact absurd ⟨i,Nat.zero_le _,by omega,hb⟩ hno
    rw [this] at hc
    simp only [hi,decide_true,Bool.true_and]
    exact hc.symm
   ·have:n.testBit i=false:=Nat.testBit_lt_two_pow (Nat.lt_of_lt_of_le hn (Nat.pow_le_pow_right (n:=2) (i:=16) (by decide) (by omega)))
    simp [this]
  rw [this]
  rfl
 ·rintro ⟨j,_,h16,h⟩ hz
  rw [zhD hn hm (by omega)] at h
  have hz2:BitVec.ofNat 64 n&&& ~~~BitVec.ofNat 64 m=0#64:=BitVec.eq_of_toNat_eq (by simpa using hz)
  have:=congrArg (fun b=>b.getLsbD j) hz2
  simp only [BitVec.getLsbD_and,BitVec.getLsbD_not,BitVec.getLsbD_ofNat,BitVec.getLsbD_zero] at this
  simp only [show j<64 by omega,decide_true,Bool.true_and] at this
  rw [this,Nat.zero_testBit] at h
  cases h
theorem ziF (kind:Int) (c:Bool):ACall Tryz.prog 138 0 [.d (.int .i64 kind),.d (.bool c)] [] (fun r _=>r= .d (.int .i64 (zbF kind c))):=by
 by_cases h:0≤kind∧kind<8
 ·have h8:kind=0∨kind=1∨kind=2∨kind=3∨kind=4∨kind=5∨kind=6∨kind=7:=by omega
  rcases h8 with rfl|rfl|rfl|rfl|rfl|rfl|rfl|rfl<;>cases c<;>
  ·refine fbod Tryz.func138 Tryz.ntmps138 (fun base=>?_)
   refine' zc fx
   all_goals rfl
 ·have e:zbF kind c= -1:=by
   unfold zbF
   rw [if_neg (by omega),if_neg (by omega),if_neg (by omega),if_neg (by omega),if_neg (by omega)]
  rw [e]
  have hc:(decide (kind<0)||decide (8≤kind))=true:=by simp;omega
  refine fbod Tryz.func138 Tryz.ntmps138 (fun base=>?_)
  refine' zc hc
def zd0:List (Bool×Int)→Int
 | []=>0
 |r::l=>if r.1 then r.2 else zd0 l
def ruleD (r:Bool×Int):List D:= [.bool r.1,.int .u32 r.2]
theorem zn4 (l:List (Bool×Int)) (hl:l.length≤1000):ACall Tryz.prog 139 0 [.d (.sl 2 (l.map ruleD))] [] (fun r _=>r= .d (.int .u32 (zd0 l))):=by
 refine fbod Tryz.func139 Tryz.ntmps139 (fun base=>?_)
 refine' zc fx
 refine zt (fun q: { i:Nat // i≤l.length∧zd0 l=zd0 (l.drop i) } =>⟨[(5,true,.d (.sl 2 (l.map ruleD))),(6,true,.d (.int .i64 l.length)),(7,true,.d (.int .i64 q.1))],[],some []⟩) (fun q=>l.length - q.1) ⟨0,Nat.zero_le _,rfl⟩ le1 (fun q=>?_)
 obtain ⟨i,hi,hf⟩:=q
 simp only at hi hf ⊢
 rcases zaw ruleD l i hi with ⟨⟨b,m⟩,hq,hlt,hcmp,hrow,hdr,htk⟩|⟨hend,hcmp⟩
 ·simp only [ruleD] at hrow
  have hwi:=zp (i:=i) (by omega)
  rw [hdr,zd0] at hf
  cases b
  ·refine' zc (zu hcmp hrow)
   exact ⟨⟨i+1,by omega,hf⟩,lew,by simp;omega⟩
  ·refine' zc (zu hcmp hrow)
   rw [hf];rfl
 ·subst hend
  rw [List.drop_length,zd0] at hf
  refine' zc hcmp
  rw [hf]
@[go_sem] noncomputable def zgy:Ent Tryz.prog 138:= .ofL (consL (intT .i64) (consL boolT nilL)) (fun (kind,c,_)=>True) (fun (kind,c,_)=> .d (.int .i64 (zbF kind c))) (fun (kind,c,_) hp=>⟨rfl,ziF kind c⟩)
theorem zmb (k:Int) (c:Bool):zbF k c≤8:=by
 unfold zbF
 repeat' split
 all_goals omega
def chkL (q:Rq) (size:Int) (ch:Bool) (ms:List Int) (E:Int):List (Bool×Int):= [(decide (zbF q.kind ch<0)||(ibits .andNot .i64 (ibits .and .i64 q.flags 65535) (zbF q.kind ch) !=0),22),(q.kind==2,0),(q.kind==3&&(q.frm !=0||q.len !=0),22),(q.kind==3,0),(q.len==0,22),(decide (1024<q.len),75),(decide (size<q.frm)||decide (IntKind.u64.wrap (size - q.frm)<IntKind.u64.wrap q.len),E),(q.kind==7&&(!ch||((ms.length:Int)==0)),22)]
theorem zmc {q:Rq} {size:Int} {ch:Bool} {ms:List Int} {E:Int} (hE:E=if q.kind=1 then 28 else 22) (f0:0≤q.flags) (f1:q.flags<65536) (c0:0≤q.len) (c1:q.len<4294967296) (g0:0≤q.frm) (s1:size<18446744073709551616):zd0 (chkL q size ch ms E)=zbu q size ch ms:=by
 have hm:=zmb q.kind ch
 unfold zbu chkL
 simp only [zd0]
 by_cases h1:zbF q.kind ch<0
 ·rw [if_pos h1,decide_eq_true h1];rfl
 rw [if_neg h1,decide_eq_false h1,Bool.false_or]
 have hb:=zpq (n:=q.flags.toNat) (m:=(zbF q.kind ch).toNat) (by omega) (by omega)
 rw [Int.toNat_of_nonneg f0,Int.toNat_of_nonneg (by omega)] at hb
 rw [hb]
 split
 ·rfl
 by_cases k2:q.kind=2
 ·rw [if_pos k2,if_pos (by simpa using k2)]
 rw [if_neg k2,if_neg (by simpa using k2)]
 by_cases k3:q.kind=3
 ·rw [if_pos k3,beq_iff_eq.mpr k3,Bool.true_and,if_pos rfl]
  by_cases hz:q.frm≠0∨q.len≠0
  ·rw [if_pos hz,if_pos (by simpa using hz)]
  ·rw [if_neg hz,if_neg (by simpa using hz)]
 rw [if_neg k3,beq_false_of_ne k3,Bool.false_and,if_neg (by decide),if_neg (by decide)]
 by_cases l0:q.len=0
 ·rw [if_pos l0,if_pos (by simpa using l0)]
 rw [if_neg l0,if_neg (by simpa using l0)]
 by_cases l1:1024<q.len
 ·rw [if_pos l1,if_pos (by simpa using l1)]
 rw [if_neg l1,if_neg (by simpa using l1),zaR c0 (by omega)]
 by_cases hs:size<q.frm
 ·rw [decide_eq_true hs,Bool.true_or,if_pos rfl,if_pos (Or.inl hs),hE]
 ·rw [decide_eq_false hs,Bool.false_or,zaR (by omega) (by omega)]
  by_cases ht:size - q.frm<q.len
  ·rw [if_pos (decide_eq_true ht),if_pos (Or.inr ht),hE]
  ·rw [if_neg (show ¬decide (size - q.frm<q.len)=true by simpa using ht),if_neg (show ¬(size<q.frm∨size - q.frm<q.len) by omega)]
   by_cases h7:q.kind=7∧(ch=false∨ms.length=0)
   ·rw [if_pos h7]
    obtain ⟨e1,e2⟩:=h7
    rw [if_pos]
    rw [e1]
    rcases e2 with e2|e2<;>rw [e2]<;>simp
   ·rw [if_neg h7]
    rw [if_neg]
    intro e
    apply h7
    simp only [Bool.and_eq_true,Bool.or_eq_true,beq_iff_eq,Bool.not_eq_true'] at e
    exact ⟨e.1,e.2.imp id (fun e=>by omega)⟩
structure ChkOk (q:Rq):Prop where
 f0:0≤q.flags
 f1:q.flags<65536
 c0:0≤q.len
 c1:q.len<4294967296
 g0:0≤q.frm
def XpOk (x:Xp):Prop:=0≤x.size∧x.size<18446744073709551616
theorem zn5 (q:Rq) (x:Xp) (n:Ng) (h:ChkOk q) (hx:XpOk x):ACall Tryz.prog 73 0 [rqA q,xpA x,ngA n] [] (fun r _=>r= .d (.int .u32 (zbu q x.size n.chunks n.metas))):=by
 refine fbod Tryz.func73 Tryz.ntmps73 (fun base=>?_)
 refine' zeH (zP 6) fx (zb zgy <| za _)
 all_goals
  refine zbv noTab (za _) 71 3 (fun K hK=>?_)
  simp only [go_sem,aeq,aeq.aeqF,simprocAttr]
  refine ⟨fun h=>⟨h,fun h2=>by rw [h,h2];rfl⟩,fun h=>⟨h,fun h2=>by rw [h,h2];rfl⟩,_,rfl,?_⟩
  simp only [go_sem,aeq,aeq.aeqF,simprocAttr]
  refine (zbo (zn4 (chkL q x.size n.chunks n.metas _) (by simp [chkL]))).mono ?_
  rintro r h' ⟨rfl,rfl⟩
  simp only [go_sem,aeq,aeq.aeqF,simprocAttr]
  refine' zc fx
  rw [zmc _ h.f0 h.f1 h.c0 h.c1 h.g0 hx.2]
 ·exact (if_pos (beq_iff_eq.mp hc)).symm
 ·exact (if_neg (by simpa using hc)).symm
@[go_sem] noncomputable def zdI:Ent Tryz.prog 73:= .ofL (consL rqA_T (consL xpA_T (consL ngA_T nilL))) (fun (q,x,n,_)=>(ChkOk q)∧(XpOk x)) (fun (q,x,n,_)=> .d (.int .u32 (zbu q x.size n.chunks n.metas))) (fun (q,x,n,_) hp=>⟨rfl,zn5 q x n hp.1 hp.2⟩)
open Go Go.Proofs
abbrev xpL (x:Xp):List AV:= [.d (.int .u64 x.size),.d (.sl 1 (x.names.map strD))]
abbrev ngL (n:Ng):List AV:= [.d (.int .i64 n.phase),.d (.str n.buf),.d (.bool n.brief),.d (.bool n.chunks),.d (.sl 1 (n.metas.map u32D))]
attribute [go_sem] xpL ngL
def lvP (x:Xp) (n:Ng) (q:Rq):Bool:=q.kind==2&&zbu q x.size n.chunks n.metas==0
theorem zoe (q:Rq) (x:Xp) (n:Ng) (h:ChkOk q) (hx:XpOk x):ACall Tryz.prog 72 0 [rqA q,.dp (xpL x),.dp (ngL n)] [] (fun r _=>r= .d (.bool (lvP x n q))):=by
 unfold lvP
 refine fbod Tryz.func72 Tryz.ntmps72 (fun base=>?_)
 by_cases hk:q.kind=2
 ·have hc:(q.kind==2)=true:=by simpa using hk
  (have tk:=zb zdI <| za Tryz.prog);repeat' (first|((first|(refine sa ?_;intro K hK)|refine sb ?_);simp only [go_sem,aeq,aeq.aeqF,simprocAttr,xpL,ngL,hc,Tryz.results72])|refine zbh (fun K hK=>?_)|(refine hK _ ?_;clear hK K)|with_reducible refine And.intro ?_ ?_|omega|assumption|refine fun (hg:(_:Bool)=(_:Bool))=>?_|clear hK K)
  all_goals first|exact h|exact hx|skip
 ·have hc:(q.kind==2)=false:=by simpa using hk
  (have tk:=zb zdI <| za Tryz.prog);repeat' (first|((first|(refine sa ?_;intro K hK)|refine sb ?_);simp only [go_sem,aeq,aeq.aeqF,simprocAttr,xpL,ngL,hc,Tryz.results72])|refine zbh (fun K hK=>?_)|(refine hK _ ?_;clear hK K)|with_reducible refine And.intro ?_ ?_|omega|assumption|refine fun (hg:(_:Bool)=(_:Bool))=>?_|clear hK K)
theorem zkI (q:Rq) (x:Xp) (n:Ng) (h:ChkOk q) (hx:XpOk x) {fl:Nat} {hp:AHeap} :ACallAt Tryz.prog fl 72 [rqA q,.dp (xpL x),.dp (ngL n)] hp (fun r h'=>r= .d (.bool (lvP x n q))∧h'=hp):=zbo (zoe q x n h hx) (by rfl) (by simp only [AV.idsL,AV.ids,xpL,ngL,rqA];rfl)
theorem zmx (l:List Rq) (x:Xp) (n:Ng) (hl:l.length≤1000000) (hx:XpOk x) (hb:∀q∈l,ChkOk q):ACall Tryz.prog 71 0 [.d (.sl 6 (l.map rqD)),.fn (.func 72) [] [.dp (xpL x),.dp (ngL n)]] [] (fun r _=>r= .d (.int .i64 (idxP (lvP x n) l 0))):=by
 refine bod Tryz.func71 Tryz.ntmps71 (fun base=>?_)
 refine' zc fx
 refine zt (fun q:Idst (lvP x n) l=>⟨[(0,true,.d (.sl 6 (l.map rqD))),(1,true,.fn (.func 72) [] [.dp (xpL x),.dp (ngL n)]),(7,true,.d (.int .i64 l.length)),(8,true,.d (.int .i64 q.1))],[],some []⟩) (fun q=>l.length - q.1) ⟨0,Nat.zero_le _,rfl⟩ le1 (fun q=>?_)
 obtain ⟨i,hi,hf⟩:=q
 simp only at hi hf ⊢
 rcases zaw rqD l i hi with ⟨m,hq,hlt,hcmp,hrow,hdr,htk⟩|⟨hend,hcmp⟩
 ·simp only [rqD] at hrow
  have hwi:=zp (i:=i) (by omega)
  have hm:=hb m (List.mem_of_getElem? hq)
  refine' zc (zF hcmp hrow natC)
  refine (zkI m x n hm hx).mono ?_
  rintro r h' ⟨rfl,rfl⟩
  refine' zc fx
  ·rw [hf,hdr,idxP,if_pos (by simpa using hc)]
  ·exact ⟨⟨i+1,by omega,by rw [hf,hdr,idxP,if_neg (by simpa using hc)]⟩,lew,by simp;omega⟩
 ·refine' zc hcmp
  rw [hf,hend,List.drop_length]
  rfl
end Go.Aw
