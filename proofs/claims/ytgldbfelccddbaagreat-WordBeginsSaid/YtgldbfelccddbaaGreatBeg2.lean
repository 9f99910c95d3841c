/-
 Parts of the proof: lemmas.
-/
import Derived.Test.YtgldbfelccddbaaGreatBeg1
set_option maxRecDepth 100000
set_option maxHeartbeats 2000000
set_option linter.unusedSimpArgs false
set_option linter.unusedVariables false
namespace Go.Aw
open Go
section
variable {P : Program} {W : World} {E : Env} {s : AS}
theorem zkc {t:TypeId} {x y:AV} {a i:Value} (hv:(zdt P t x y).1) (hx:Rep W E s.h x a) (hy:Rep W E s.h y i):
  ∃v,(Instr.index t a i).run P W= .ok v W∧Rep W E s.h (zdt P t x y).2 v:=by
 unfold zdt at hv ⊢
 split at hv
 ·rename_i k j
  simp only [Rep,RepD] at hy
  subst hy
  split at hv
  ·rename_i n e cs ht
   obtain ⟨he,h0,h1,hl⟩:=hv
   obtain ⟨de,hde⟩:=zak he
   simp only [Rep] at hx
   obtain ⟨vs,rfl,hr⟩:=hx
   simp only [Instr.index,asIntOf,Sem.run_bind,Sem.run_pure,Result.andThen_ok,run_underlying (zba ht),h0,h1,and_self,if_true,zo hde]
   exact zaJ he hr hl W
  ·rename_i l ht
   obtain ⟨h0,h1⟩:=hv
   simp only [Rep,RepD] at hx ⊢
   subst hx
   have hlt:j.toNat<l.length:=by omega
   have hg:(⟨l.toArray⟩:ByteArray)[j.toNat]?=some (l.getD j.toNat 0):=by
    have hsz:j.toNat<(⟨l.toArray⟩:ByteArray).size:=by simpa [ByteArray.size] using hlt
    rw [getElem?_pos (⟨l.toArray⟩:ByteArray) j.toNat hsz]
    congr 1
    show (l.toArray)[j.toNat]=_
    rw [List.getElem_toArray,List.getD_eq_getElem?_getD,List.getElem?_eq_getElem hlt];rfl
   simp only [Instr.index,asIntOf,Sem.run_bind,Sem.run_pure,Result.andThen_ok,run_underlying (zaC ht),h0,if_true,hg]
   exact ⟨_,rfl,rfl⟩
  ·exact hv.elim
 ·exact hv.elim
theorem zgV {src dst:TypeId} {x:AV} {a:Value} (hv:(zbx P src dst x).1) (hx:Rep W E s.h x a):
  ∃v,(convert src dst a).run P W= .ok v W∧Rep W E s.h (zbx P src dst x).2 v:=by
 unfold zbx at hv ⊢
 split at hv
 ·rename_i k n
  split at hv
  ·rename_i k' ht
   obtain ⟨d,hd⟩:=zak hv
   simp only [Rep,RepD] at hx ⊢
   subst hx
   simp [convert,run_underlying hd,run_underlying (zcB ht),Conv.intToInt]
  ·exact hv.elim
 ·simp only [Rep,RepD] at hx ⊢
  subst hx
  simp [convert,run_underlying (zaC hv.1),run_underlying (zaC hv.2)]
 ·exact hv.elim
theorem znv {t:TypeId} {x:AV} {a:Value} (hp:SatH E s.h W) (hv:(avLen P s t x).1) (hx:Rep W E s.h x a) (ts:Array TypeId) (hts:ts[0]?=some t) (o:TypeId) (args:Array Value) (ha:args[0]?=some a):
  ∃v,(Builtin.len_ ts o args).run P W= .ok v W∧Rep W E s.h (avLen P s t x).2 v:=by
 unfold avLen at hv ⊢
 split at hv
 ·rename_i n e ht
  simp [Builtin.len_,hts,ha,run_underlying (zba ht),goInt,Rep,RepD]
 ·rename_i l ht
  simp only [Rep,RepD] at hx;subst hx
  have:(⟨l.toArray⟩:ByteArray).size=l.length:=by simp [ByteArray.size]
  simp [Builtin.len_,hts,ha,run_underlying (zaC ht),goInt,Rep,RepD,this]
 ·rename_i e k xs ht
  simp only [Rep,RepD] at hx
  rcases hx with ⟨rfl,p,cap,rfl⟩|⟨p,cap,c,T,fz,rfl,_⟩<;>simp [Builtin.len_,hts,ha,run_underlying (zq ht),goInt,Rep,RepD]
 ·rename_i e k xs ht
  simp only [Rep] at hx
  obtain ⟨p,cap,c,T,fz,rfl,_⟩:=hx
  simp [Builtin.len_,hts,ha,run_underlying (zq ht),goInt,Rep,RepD]
 ·rename_i e ht
  simp only [Rep] at hx;subst hx
  simp [Builtin.len_,hts,ha,run_underlying (zq ht),goInt,Rep,RepD]
 ·rename_i e i k n off len ht
  simp only [Rep] at hx
  obtain ⟨-,xs,h2,h3,h4,h5⟩:=hx
  rcases h5 (by simpa [AS.cur,h2] using hv) with ⟨⟨h6,h60⟩,rfl⟩|⟨b,hO,rfl⟩|⟨_,rfl,p,cap,rfl⟩
  ·have:len=0:=by omega
   subst this
   simp [Builtin.len_,hts,ha,run_underlying (zq ht),goInt,Rep,RepD]
  ·simp [Builtin.len_,hts,ha,run_underlying (zq ht),goInt,Rep,RepD]
  ·simp [Builtin.len_,hts,ha,run_underlying (zq ht),goInt,Rep,RepD]
 ·rename_i e i k off len ht
  simp only [Rep] at hx
  obtain ⟨b,cs,h2,h3,h4,_,_,rfl⟩:=hx
  simp [Builtin.len_,hts,ha,run_underlying (zq ht),goInt,Rep,RepD]
 ·exact hv.elim
theorem znw {op:BinOp} {t:TypeId} {x y:AV} {a b:Value} (hv:(abin2 P op t x y).1) (hx:Rep W E s.h x a) (hy:Rep W E s.h y b) (ox oy:Operand):
  ∃v,(do eqGuard op t ox oy a b;binOp op t a b).run P W= .ok v W∧Rep W E s.h (abin2 P op t x y).2 v:=by
 unfold abin2 at hv ⊢
 split at hv
 ·rename_i xs ys
  have hxa:=hx
  have hya:=hy
  simp only [Rep] at hx hy
  obtain ⟨us,rfl,hx⟩:=hx
  obtain ⟨vs,rfl,hy⟩:=hy
  dsimp only at hv ⊢
  split at hv
  ·obtain ⟨hg,he⟩:=hv
   simp only [Sem.run_bind,Go.run_eqGuard_agg _ _ _ _ _ _ _ hg,Result.andThen_ok,Go.run_eql_struct,zja W 12 10000 t _ _ _ _ (by omega) he hxa hya]
   exact ⟨_,rfl,by simp [Rep,RepD]⟩
  ·obtain ⟨hg,he⟩:=hv
   simp only [Sem.run_bind,Go.run_eqGuard_agg _ _ _ _ _ _ _ hg,Result.andThen_ok,Go.run_neq_struct,zja W 12 10000 t _ _ _ _ (by omega) he hxa hya]
   exact ⟨_,rfl,by simp [Rep,RepD]⟩
  ·exact hv.elim
 ·rename_i f fs cs
  simp only [Rep] at hx hy
  obtain ⟨p,q,rfl,_⟩:=hx
  subst hy
  split at hv
  ·rename_i ht
   obtain ⟨d,hd,hde⟩:=za9 ht (by simp)
   have hrun:∀w,(Op.equal t (.func f p q) .nilFunc).run P w= .ok false w:=fun w=>by
    show (Op.equalIn (9999+1) t _ _).run P w=_
    rw [Op.equalIn]
    cases d<;>simp only [tdOf] at hde<;>first|cases hde|(split at hde<;>cases hde)|skip
    simp only [Sem.run_bind,run_underlying hd,Result.andThen_ok,Sem.run_pure]
   rw [if_pos ht]
   cases op<;>simp only [nilAV] at hv ⊢ <;>first|exact hv.elim|skip
   all_goals simp [eqGuard,binOp,hrun,Rep,RepD]
  ·exact hv.elim
 ·simp only [Rep] at hx hy
  subst hx hy
  split at hv
  ·rename_i ht
   obtain ⟨d,hd,hde⟩:=za9 ht (by simp)
   have hrun:∀w,(Op.equal t .nilFunc .nilFunc).run P w= .ok true w:=fun w=>by
    show (Op.equalIn (9999+1) t _ _).run P w=_
    rw [Op.equalIn]
    cases d<;>simp only [tdOf] at hde<;>first|cases hde|(split at hde<;>cases hde)|skip
    simp only [Sem.run_bind,run_underlying hd,Result.andThen_ok,Sem.run_pure]
   rw [if_pos ht]
   cases op<;>simp only [nilAV] at hv ⊢ <;>first|exact hv.elim|skip
   all_goals simp [eqGuard,binOp,hrun,Rep,RepD]
  ·exact hv.elim
 ·obtain ⟨v,h1,h2⟩:=zo0 hv hx hy W
  refine ⟨v,?_,h2⟩
  have:∀w,(eqGuard op t ox oy a b).run P w= .ok () w:=fun w=>by
   unfold abin at hv
   split at hv<;>(try exact hv.elim)<;>simp only [Rep,RepD] at hx hy<;>subst hx hy<;>cases op<;>simp [eqGuard]
  simp only [Sem.run_bind,this,Result.andThen_ok,h1]
theorem zld {a:Act} (hs:Slots W E s a) {x:Option Operand} {d:Int} (h:(s.bnd x d).1):(x=none∧(s.bnd x d).2=d)∨(∃y k,x=some y∧a.eval y= .int k (s.bnd x d).2):=by
 unfold AS.bnd at h ⊢
 cases x with
 |none=>exact .inl ⟨rfl,rfl⟩
 | some y=>
  right
  simp only at h ⊢
  split at h
  ·rename_i g k n he
   have:=ev_ok hs y (by rw [he];exact h)
   rw [he] at this
   simp only [Rep,RepD] at this
   exact ⟨y,k,rfl,this⟩
  ·exact h.elim
theorem zJ {k:IntKind} {n:Int} {y:Nat} {code:BoundsCode} (h0:0≤n) (h1:n≤y):(Instr.sliceBound (.int k n) y code).run P W= .ok n.toNat W:=by
 simp [Instr.sliceBound,asIntOf,h0,h1]
theorem zK {a:Act} (hs:Slots W E s a) {isS:Bool} {len cap:Nat} {lo hi mx:Option Operand} (hm:mx≠none→hi≠none) {dm:Int} (hdm:mx=none→True)
  (h1:(s.bnd lo 0).1) (h2:(s.bnd hi len).1) (h3:(s.bnd mx dm).1) (h4:0≤(s.bnd lo 0).2) (h5:(s.bnd lo 0).2≤(s.bnd hi len).2) (h6:mx≠none→(s.bnd hi len).2≤(s.bnd mx dm).2∧(s.bnd mx dm).2≤cap) (h7:mx=none→(s.bnd hi len).2≤cap):
  (Instr.sliceBounds isS len cap (lo.map a.eval) (hi.map a.eval) (mx.map a.eval)).run P W= .ok ((s.bnd lo 0).2.toNat,(s.bnd hi len).2.toNat,if mx=none then cap else (s.bnd mx dm).2.toNat) W:=by
 have hb1:=zld hs h1
 have hb2:=zld hs h2
 have hb3:=zld hs h3
 generalize (s.bnd lo 0).2=l at*
 generalize (s.bnd hi len).2=hh at*
 generalize (s.bnd mx dm).2=m at*
 unfold Instr.sliceBounds
 rcases hb3 with ⟨rfl,rfl⟩|⟨ym,km,rfl,em⟩
 ·-- no third bound
  have h7':=h7 rfl
  rcases hb2 with ⟨rfl,rfl⟩|⟨yh,kh,rfl,eh⟩
  ·rcases hb1 with ⟨rfl,rfl⟩|⟨yl,kl,rfl,el⟩
   ·simp
   ·simp [el,zJ h4 h5]
  ·rcases hb1 with ⟨rfl,rfl⟩|⟨yl,kl,rfl,el⟩
   ·simp [eh,zJ (Int.le_trans h4 h5) h7']
   ·have h5':l≤(hh.toNat:Int):=by omega
    simp [eh,el,zJ (Int.le_trans h4 h5) h7',zJ h4 h5']
 ·obtain ⟨h6a,h6b⟩:=h6 (by simp)
  rcases hb2 with ⟨rfl,rfl⟩|⟨yh,kh,rfl,eh⟩
  ·exact absurd rfl (hm (by simp))
  ·have hm0:0≤m:=by omega
   have h6':hh≤(m.toNat:Int):=by omega
   rcases hb1 with ⟨rfl,rfl⟩|⟨yl,kl,rfl,el⟩
   ·simp [eh,em,zJ hm0 h6b,zJ (Int.le_trans h4 h5) h6']
   ·have h5':l≤(hh.toNat:Int):=by omega
    simp [eh,em,el,zJ hm0 h6b,zJ (Int.le_trans h4 h5) h6',zJ h4 h5']
theorem zia (l:List UInt8) (i j:Nat):(⟨l.toArray⟩:ByteArray).extract i j=⟨((l.take j).drop i).toArray⟩:=by
 apply ByteArray.ext
 simp [List.extract_eq_take_drop,List.drop_take]
end
open Go
section
variable {P : Program} {W : World} {E : Env} {s : AS} {a : Act}
theorem za3 {t:TypeId} {x:Value} {lo hi mx:Option Value} {d:TypeDesc} (h:P.underlying t=some d) (hd:∀n e,d≠ .array n e):(Instr.sliceAt t x lo hi mx).run P W=(Instr.slice t x lo hi mx).run P W:=by
 unfold Instr.sliceAt
 simp only [Sem.run_bind,run_underlying h,Result.andThen_ok]
theorem Reps.ones {h:AHeap} {X:Nat→Prop} (hX:∀ (x:D) v,RepD W (Xs E h) x v→RepD W X x v):∀ (cs:List AV) {vs:List Value},Reps W E h cs vs→cs.all AV.isD=true→∀us,RepRows W X 1 (cs.map AV.oneD) (vs++us)
 | [],_,_,_,_=>by simp only [List.map_nil,RepRows]
 | a::cs,vs,hr,hd,us=>by
  simp only [Reps] at hr
  obtain ⟨v,r,rfl,h1,h2⟩:=hr
  simp only [List.all_cons,Bool.and_eq_true] at hd
  cases a with
  |d x=>
   simp only [Rep] at h1
   simp only [List.map_cons,AV.oneD,RepRows,List.cons_append,List.length_singleton,List.take_succ_cons,List.take_zero,List.drop_succ_cons,List.drop_zero,RepDs,true_and]
   exact ⟨⟨v,[],rfl,hX x v h1,rfl⟩,Reps.ones hX cs h2 hd.2 us⟩
  |_=>simp [AV.isD] at hd
theorem zkd (hp:SatH E s.h W) (hs:Slots W E s a) {t:TypeId} {x:AV} {v:Value} {lo hi mx:Option Operand} (hv:(za1 P s t x lo hi mx).1) (hx:Rep W E s.h x v):
  ∃u,(Instr.sliceAt t v (lo.map a.eval) (hi.map a.eval) (mx.map a.eval)).run P W= .ok u W∧Rep W E s.h (za1 P s t x lo hi mx).2 u:=by
 unfold za1 at hv ⊢
 dsimp only at hv ⊢
 split at hv
 ·-- a text
  rename_i b
  obtain ⟨rfl,ht,h1,h2,h4,h5,h6⟩:=hv
  simp only [Rep,RepD] at hx ⊢
  subst hx
  have hlen:(⟨b.toArray⟩:ByteArray).size=b.length:=by simp [ByteArray.size]
  have hb:=zK (P:=P) (W:=W) hs (isS:=false) (len:=b.length) (cap:=b.length) (lo:=lo) (hi:=hi) (mx:=none) (dm:=0) (by simp) (fun _=>trivial) h1 h2 (by simp [AS.bnd]) h4 h5 (by simp) (fun _=>h6)
  rw [za3 (zaC ht) (by simp)]
  simp only [Instr.slice,Sem.run_bind,run_underlying (zaC ht),Result.andThen_ok,Option.map_none,Option.isSome_none,Bool.false_eq_true,if_false,hlen]
  simp only [Option.map_none] at hb
  simp only [hb,Result.andThen_ok,Sem.run_pure]
  exact ⟨_,rfl,by rw [zia]⟩
 ·-- data
  rename_i k xs
  obtain ⟨hm,⟨e,ht,hk,he⟩,h1,h2,h3,h4,h5,h6,h7⟩:=hv
  have hu:=zq ht
  obtain ⟨de,hde⟩:=zak he
  rw [za3 hu (by simp)]
  simp only [Rep,RepD] at hx ⊢
  rcases hx with ⟨rfl,p,cap,rfl⟩|⟨p,cap,c,T,fz,rfl,hsp,hcap,hX,hb,hr⟩
  ·have hb:=zK (P:=P) (W:=W) hs (isS:=true) (len:=0) (cap:=cap) (lo:=lo) (hi:=hi) (mx:=mx) (dm:=(([]:List (List D)).length:Int)) hm (fun _=>trivial) h1 h2 h3 h4 h5 (fun _=>⟨h6,by simp only [List.length_nil] at h7 ⊢;omega⟩) (fun _=>by simp only [List.length_nil] at h7 h6 ⊢;omega)
   simp only [Instr.slice,Sem.run_bind,run_underlying hu,Result.andThen_ok,hb,zo hde,Sem.run_pure]
   refine ⟨_,rfl,.inl ⟨by simp,?_⟩⟩
   have e1:(s.bnd hi ((0:Nat):Int)).2≤0:=by
    have:=h6;have:=h7;simp only [List.length_nil] at*;omega
   have e2:(s.bnd hi ((0:Nat):Int)).2.toNat - (s.bnd lo 0).2.toNat=0:=by omega
   rw [e2]
   exact ⟨_,_,rfl⟩
  ·have hb':=zK (P:=P) (W:=W) hs (isS:=true) (len:=xs.length) (cap:=cap) (lo:=lo) (hi:=hi) (mx:=mx) (dm:=(xs.length:Int)) hm (fun _=>trivial) h1 h2 h3 h4 h5 (fun _=>⟨h6,by omega⟩) (fun _=>by omega)
   simp only [Instr.slice,Sem.run_bind,run_underlying hu,Result.andThen_ok,hb',zo hde,Sem.run_pure]
   refine ⟨_,rfl,?_⟩
   generalize (s.bnd lo 0).2=l at*
   generalize (s.bnd hi xs.length).2=hh at*
   generalize (s.bnd mx xs.length).2=m at*
   have hlen:((xs.take hh.toNat).drop l.toNat).length=hh.toNat - l.toNat:=by simp;omega
   rcases Nat.eq_zero_or_pos (hh.toNat - l.toNat) with h0|h0
   ·exact .inl ⟨List.eq_nil_of_length_eq_zero (by omega),by rw [h0];exact ⟨_,_,rfl⟩⟩
   ·obtain ⟨pb,po,psp⟩:=p
    simp only at hsp hX hb hr
    subst hsp
    right
    have hne:¬(if mx=none then cap else m.toNat)=l.toNat:=by split<;>omega
    refine ⟨⟨pb,po+l.toNat*k,none⟩,(if mx=none then cap else m.toNat) - l.toNat,c,T,fz,?_,rfl,?_,hX,hb,?_⟩
    ·rw [if_neg hne,hlen,hk];simp [Addr.add_none]
    ·rw [hlen];split<;>omega
    ·have:=RepRows.drop (RepRows.take hr hh.toNat) l.toNat
     rw [List.drop_drop] at this
     exact this
 ·-- an array of one's own
  rename_i i k n off len
  cases mx with
  | some m=>
   obtain ⟨hm,hc,⟨e,ht,hk,he⟩,h1,h2,h3,h4,h5,h6,h7⟩:=hv
   have hu:=zq ht
   obtain ⟨de,hde⟩:=zak he
   rw [za3 hu (by simp)]
   simp only [Rep] at hx ⊢
   obtain ⟨-,xs,g1,g2,g3,g4⟩:=hx
   have hn:xs.length=n:=by simpa [AS.cur,g1] using hc
   have hob:=hp.heap i _ g1
   simp only [RepObj] at hob
   obtain ⟨p,cap,rfl,hcap⟩:∃p cap,v= .slice p len cap∧len≤cap:=by
    rcases g4 hn with ⟨⟨g5,g50⟩,rfl⟩|⟨b,hO,rfl⟩|⟨g5,rfl,p,cap,rfl⟩
    ·obtain rfl:len=0:=by omega
     exact ⟨_,_,rfl,Nat.le_refl _⟩
    ·rcases hob with ⟨h0,_⟩|⟨b',c,T,fz,hO',hb,hsz,hcap,hrows,_⟩
     ·rw [h0] at hO;cases hO
     ·exact ⟨_,_,rfl,by omega⟩
    ·exact ⟨_,_,rfl,Nat.zero_le _⟩
   have hb:=zK (P:=P) (W:=W) hs (isS:=true) (len:=len) (cap:=cap) (lo:=lo) (hi:=hi) (mx:=some m) (dm:=len) (fun _=>hm) (fun _=>trivial) h1 h2 h3 h4 h5 (fun _=>⟨h6,by omega⟩) (fun _=>by omega)
   simp only [Instr.slice,Sem.run_bind,run_underlying hu,Result.andThen_ok,hb,zo hde,Sem.run_pure]
   exact ⟨_,rfl,trivial⟩
  |none=>
  obtain ⟨hc,⟨e,ht,hk,he⟩,h1,h2,h4,h5,h6⟩:=hv
  have hu:=zq ht
  obtain ⟨de,hde⟩:=zak he
  rw [za3 hu (by simp)]
  simp only [Rep] at hx ⊢
  obtain ⟨-,xs,g1,g2,g3,g4⟩:=hx
  have hn:xs.length=n:=by simpa [AS.cur,g1] using hc
  have hob:=hp.heap i _ g1
  simp only [RepObj] at hob
  have h6b:(off:Int)+(s.bnd hi len).2≤n:=by split at h6<;>omega
  have h6a:off≠0→(s.bnd hi len).2≤len:=fun e=>by rw [if_neg e] at h6;exact h6
  clear h6
  rcases g4 hn with ⟨⟨g5,g50⟩,rfl⟩|⟨b,hO,rfl⟩|⟨g5,rfl,p,cap,rfl⟩
  ·have hxs:xs= []:=List.length_eq_zero_iff.1 (by omega)
   subst hxs
   simp only [List.length_nil] at hn g2
   have hl0:len=0:=by omega
   subst hl0
   have hb:=zK (P:=P) (W:=W) hs (isS:=true) (len:=0) (cap:=0) (lo:=lo) (hi:=hi) (mx:=none) (dm:=0) (by simp) (fun _=>trivial) h1 h2 (by simp [AS.bnd]) h4 h5 (by simp) (fun _=>by omega)
   simp only [Option.map_none] at hb
   simp only [Instr.slice,Sem.run_bind,run_underlying hu,Result.andThen_ok,Option.map_none,hb,zo hde,Sem.run_pure,if_true]
   generalize (s.bnd lo 0).2=l at*
   generalize (s.bnd hi ((0:Nat):Int)).2=hh at*
   have e1:l.toNat=0:=by omega
   have e2:hh.toNat=0:=by omega
   refine ⟨_,rfl,⟨_,_,_,rfl⟩,[],g1,by simp only [List.length_nil];omega,by omega,fun _=> .inl ⟨⟨g5,g50⟩,?_⟩⟩
   rw [e1,e2]
   rfl
  ·rcases hob with ⟨h0,_⟩|⟨b',c,T,fz,hO',hb,hsz,hcap,hrows,_⟩
   ·rw [h0] at hO;cases hO
   rw [hO] at hO';cases hO'
   have hb':=zK (P:=P) (W:=W) hs (isS:=true) (len:=len) (cap:=E.C i - off) (lo:=lo) (hi:=hi) (mx:=none) (dm:=0) (by simp) (fun _=>trivial) h1 h2 (by simp [AS.bnd]) h4 h5 (by simp) (fun _=>by omega)
   simp only [Option.map_none] at hb'
   simp only [Instr.slice,Sem.run_bind,run_underlying hu,Result.andThen_ok,Option.map_none,hb',zo hde,Sem.run_pure,if_true]
   generalize (s.bnd lo 0).2=l at*
   generalize (s.bnd hi len).2=hh at*
   refine ⟨_,rfl,⟨_,_,_,rfl⟩,xs,g1,g2,by omega,fun _=> .inr ?_⟩
   by_cases hcl:E.C i - off=l.toNat
   ·rw [if_pos hcl]
    by_cases h0:off+l.toNat=0
    ·left
     refine ⟨b,hO,?_⟩
     have e1:off=0:=by omega
     have e2:l.toNat=0:=by omega
     simp [e1,e2]
    ·right
     refine ⟨h0,by omega,?_⟩
     have:hh.toNat - l.toNat=0:=by omega
     rw [this];exact ⟨_,_,rfl⟩
   ·left
    rw [if_neg hcl]
    refine ⟨b,hO,?_⟩
    simp only [Option.map_some,Addr.add_none,hk]
    rw [← Nat.add_mul,Nat.sub_sub]
  ·have h6:=h6a g5
   have hb:=zK (P:=P) (W:=W) hs (isS:=true) (len:=0) (cap:=cap) (lo:=lo) (hi:=hi) (mx:=none) (dm:=0) (by simp) (fun _=>trivial) h1 h2 (by simp [AS.bnd]) h4 h5 (by simp) (fun _=>by omega)
   simp only [Option.map_none] at hb
   simp only [Instr.slice,Sem.run_bind,run_underlying hu,Result.andThen_ok,Option.map_none,hb,zo hde,Sem.run_pure,if_true]
   generalize (s.bnd lo 0).2=l at*
   generalize (s.bnd hi ((0:Nat):Int)).2=hh at*
   refine ⟨_,rfl,⟨_,_,_,rfl⟩,xs,g1,g2,by omega,fun _=> .inr (.inr ⟨by omega,by omega,?_⟩)⟩
   have:hh.toNat - l.toNat=0:=by omega
   rw [this];exact ⟨_,_,rfl⟩
 ·-- a whole array variable
  rename_i i off
  split at hv
  ·rename_i n e ht
   obtain ⟨rfl,rfl,rfl,he,hc⟩:=hv
   obtain ⟨de,hde⟩:=zak he
   simp only [Rep] at hx ⊢
   obtain ⟨b,cs,g1,g2,rfl⟩:=hx
   simp only [g1] at hc
   simp only [Instr.sliceAt,Sem.run_bind,run_underlying (zba ht),Result.andThen_ok,Instr.sureAddr,Sem.run_pure,Option.map_none,Instr.sliceBounds,zo hde]
   refine ⟨_,rfl,b,cs,g1,g2,hc,?_⟩
   simp [Addr.add_none]
  ·exact hv.elim
 ·-- an array told aZ data
  rename_i cs
  split at hv
  ·rename_i n e ht
   obtain ⟨rfl,rfl,he,h2,h4,h5,h6,h7⟩:=hv
   obtain ⟨de,hde⟩:=zak he
   simp only [Rep] at hx ⊢
   obtain ⟨p,c,T,fz,rfl,hsp,hX,hb,hr⟩:=hx
   have hb':=zK (P:=P) (W:=W) hs (isS:=false) (len:=n) (cap:=n) (lo:=none) (hi:=hi) (mx:=none) (dm:=0) (by simp) (fun _=>trivial) (by simp [AS.bnd]) h2 (by simp [AS.bnd]) (by simp [AS.bnd]) (by simpa [AS.bnd] using h4) (by simp) (fun _=>h5)
   simp only [Option.map_none] at hb'
   simp only [Instr.sliceAt,Sem.run_bind,run_underlying (zba ht),Result.andThen_ok,Instr.sureAddr,Sem.run_pure,Option.map_none,hb',zo hde]
   refine ⟨_,rfl,?_⟩
   simp only [Rep,RepD]
   generalize (s.bnd hi n).2=m at*
   have hb0:(s.bnd none 0).2=0:=by simp [AS.bnd]
   obtain ⟨pb,po,psp⟩:=p
   simp only at hsp hX hb hr
   subst hsp
   have hlen:((cs.map AV.oneD).take m.toNat).length=m.toNat:=by simp;omega
   refine .inr ⟨⟨pb,po,none⟩,n,c,T,fz,?_,rfl,by rw [hlen];omega,hX,hb,?_⟩
   ·rw [hlen,hb0]
    simp [Addr.add_none]
   ·refine RepRows.take ?_ _
    have:=Reps.ones (W:=W) (E:=E) (h:=s.h) (X:=Xs E s.h) (fun _ _ h=>h) cs hr h7 ((c.toList.drop po).drop cs.length)
    rwa [List.take_append_drop] at this
  ·exact hv.elim
 ·exact hv.elim
theorem zle (hs:Slots W E s a):∀ (l:List Operand),(l.all fun x=>(s.ev x).1)=true→Reps W E s.h (l.map fun x=>(s.ev x).2) (l.map a.eval)
 | [],_=>by simp [Reps]
 |x::l,h=>by
  simp only [List.all_cons,Bool.and_eq_true] at h
  simp only [List.map_cons,Reps]
  exact ⟨_,_,rfl,ev_ok hs x h.1,zle hs l h.2⟩
theorem zlf {α β:Type} {f:α→β} {p q:β} {l:Array α} (h:l.toList.map f= [p,q]):∃x y,l= #[x,y]∧f x=p∧f y=q:=by
 obtain ⟨l⟩:=l
 cases l with
 |nil=>simp at h
 | cons x l=>
  cases l with
  |nil=>simp at h
  |cons y l=>
   cases l with
   |nil=>simp at h;exact ⟨x,y,rfl,h.1,h.2⟩
   |cons z l=>simp at h
theorem zlg {α β:Type} {f:α→β} {p q r:β} {l:Array α} (h:l.toList.map f= [p,q,r]):∃x y z,l= #[x,y,z]∧f x=p∧f y=q∧f z=r:=by
 obtain ⟨l⟩:=l
 cases l with
 |nil=>simp at h
 | cons x l=>
  cases l with
  |nil=>simp at h
  | cons y l=>
   cases l with
   |nil=>simp at h
   |cons z l=>
    cases l with
    |nil=>simp at h;exact ⟨x,y,z,rfl,h.1,h.2.1,h.2.2⟩
    |cons u l=>simp at h
theorem zlh (hp:SatH E s.h W) (hs:Slots W E s a) {c:Call} {o:TypeId} (hv:(zb1 P s c).1):
  ∃v,(do let d ← resolve a.eval c o;invoke d.target d.args).run P W= .ok (.value v) W∧Rep W E s.h (zb1 P s c).2 v:=by
 obtain ⟨callee,args,argTypes⟩:=c
 unfold zb1 at hv ⊢
 dsimp only at hv ⊢
 split at hv
 ·split at hv
  ·rename_i x t hx ht
   have hax:args= #[x]:=by rw [← Array.toList_inj];exact hx
   have hat:argTypes= #[t]:=by rw [← Array.toList_inj];exact ht
   subst hax hat
   obtain ⟨v,h1,h2⟩:=znv (P:=P) hp hv.2 (ev_ok hs x hv.1) #[t] rfl o #[a.eval x] rfl
   refine ⟨v,?_,h2⟩
   simp [resolve,invoke,builtin,h1]
  ·exact hv.elim
 ·split at hv
  ·rename_i gx k m gy k' n he
   obtain ⟨x,y,rfl,e1,e2⟩:=zlf he
   have hx:=ev_ok hs x (by rw [e1];exact hv.1)
   have hy:=ev_ok hs y (by rw [e2];exact hv.2)
   rw [e1] at hx
   rw [e2] at hy
   simp only [Rep,RepD] at hx hy
   simp [resolve,invoke,builtin,Builtin.min_,hx,hy,Builtin.min2,Rep,RepD,imin]
  ·rename_i gx k m gy k' n gz k'' q he
   obtain ⟨x,y,z,rfl,e1,e2,e3⟩:=zlg he
   have hx:=ev_ok hs x (by rw [e1];exact hv.1)
   have hy:=ev_ok hs y (by rw [e2];exact hv.2.1)
   have hz:=ev_ok hs z (by rw [e3];exact hv.2.2)
   rw [e1] at hx
   rw [e2] at hy
   rw [e3] at hz
   simp only [Rep,RepD] at hx hy hz
   simp [resolve,invoke,builtin,Builtin.min_,hx,hy,hz,Builtin.min2,Rep,RepD,imin]
   try rfl
  ·exact hv.elim
 ·split at hv
  ·rename_i gx k m gy k' n he
   obtain ⟨x,y,rfl,e1,e2⟩:=zlf he
   have hx:=ev_ok hs x (by rw [e1];exact hv.1)
   have hy:=ev_ok hs y (by rw [e2];exact hv.2)
   rw [e1] at hx
   rw [e2] at hy
   simp only [Rep,RepD] at hx hy
   simp [resolve,invoke,builtin,Builtin.max_,hx,hy,Builtin.max2,Rep,RepD,imax]
  ·exact hv.elim
 ·exact hv.elim
theorem zib {P:Program} {W:World} {E:Env} {s:AS} {T:TypeId} {xt:TypeId} {ok:Bool} {x:AV} {v:Value} (h:(zcl P T ok x).1) (hx:Rep W E s.h x v):∃r,(Instr.typeAssert v xt T ok).run P W= .ok r W∧Rep W E s.h (zcl P T ok x).2 r:=by
 unfold zcl at h ⊢
 split at h
 ·rename_i t y
  split at h
  ·rename_i hc
   obtain ⟨rfl,h1,h2⟩:=hc
   simp only [Rep] at hx
   obtain ⟨u,rfl,hu⟩:=hx
   obtain ⟨d,hd⟩:=zak h2
   rw [td_of hd] at h1
   rw [if_pos ⟨rfl,by rw [td_of hd];exact h1,h2⟩]
   have hsel:(Instr.typeAssert (.iface t u) xt T true).run P W=(if t=T then (pure (Value.tuple #[u,.bool true]):Sem Value) else (do pure (Value.tuple #[← zeroValue T,.bool false]))).run P W:=by
    simp only [Instr.typeAssert,Sem.run_bind,run_underlying hd,Result.andThen_ok]
    cases d<;>first|(exact absurd rfl h1)|rfl
   rw [hsel]
   by_cases e:t=T
   ·subst e
    rw [if_pos rfl,if_pos rfl]
    exact ⟨.tuple #[u,.bool true],by simp,by simp only [Rep,Reps,RepD];exact ⟨_,rfl,u,[.bool true],rfl,hu,.bool true,[],rfl,rfl,rfl⟩⟩
   ·rw [if_neg e,if_neg e]
    rw [if_neg e] at h
    split at h
    ·rename_i z hz
     obtain ⟨g1,g2⟩:=h
     obtain ⟨i,z',q1,q2,q3,q4,q5,q6⟩:=zdr g1
     rw [g2] at q4
     refine ⟨.tuple #[z',.bool false],by simp [zbL q1 q2],?_⟩
     have hz1:z'.cells= #[z']:=by cases z'<;>first|rfl|(simp at q4)
     rw [hz,hz1] at q3
     simp only [gndL,Bool.and_true] at q3
     simp only [Rep,Reps,RepD]
     exact ⟨_,rfl,z',[.bool false],rfl,zh7 q3,.bool false,[],rfl,rfl,rfl⟩
    ·exact h.elim
  ·exact h.elim
 ·exact h.elim
theorem zic (hp:SatH E s.h W) (hs:Slots W E s a) (o:Oper) (hv:(aval P s o.op).1):
  ∃v,(execOp a.eval o).run P W= .ok (.value v) W∧Rep W E s.h (aval P s o.op).2 v:=by
 obtain ⟨dst,op,ot,pos,after,guard⟩:=o
 dsimp only at hv ⊢
 unfold aval at hv ⊢
 split at hv<;>(try dsimp only at hv ⊢)
 ·rename_i op t x y _
  obtain ⟨v,h1,h2⟩:=znw hv.2.2 (ev_ok hs x hv.1) (ev_ok hs y hv.2.1) x y
  exact ⟨v,by unfold execOp;dsimp only;rw [Sem.run_bind,h1];simp,h2⟩
 ·rename_i op _ x
  obtain ⟨v,h1,h2⟩:=zp1 (P:=P) hv.2 (ev_ok hs x hv.1) W
  exact ⟨v,by simp [execOp,h1],h2⟩
 ·rename_i src dst x
  obtain ⟨v,h1,h2⟩:=zgV (P:=P) hv.2 (ev_ok hs x hv.1)
  exact ⟨v,by simp [execOp,h1],h2⟩
 ·rename_i t x
  obtain ⟨hg,h1,h2⟩:=hv
  obtain ⟨d,hd⟩:=zak h1
  have hx:=ev_ok hs x hg
  refine ⟨.iface t (a.eval x),?_,by simp only [Rep];exact ⟨_,rfl,hx⟩⟩
  simp only [execOp,Instr.makeInterface,Sem.run_bind,run_underlying hd,Result.andThen_ok]
  rw [td_of hd] at h2
  cases d<;>first|(exact absurd rfl h2)|simp
 ·rename_i f fs cs
  refine ⟨.func f (fs.map a.eval) (cs.map a.eval),by simp [execOp,Instr.makeFunc],?_⟩
  simp only [Rep]
  simp only [Array.toList_append,List.all_append,Bool.and_eq_true] at hv
  exact ⟨_,_,rfl,by simpa using zle hs fs.toList hv.1,by simpa using zle hs cs.toList hv.2⟩
 ·rename_i t x f
  obtain ⟨v,h1,h2⟩:=zkb (P:=P) (s:=s) hv.2 (ev_ok hs x hv.1)
  exact ⟨v,by simp [execOp,h1],h2⟩
 ·rename_i t x f
  obtain ⟨v,h1,h2⟩:=ze3 (P:=P) (s:=s) hv.2 (ev_ok hs x hv.1)
  exact ⟨v,by simp [execOp,h1],h2⟩
 ·rename_i t x y
  obtain ⟨v,h1,h2⟩:=ze5 (P:=P) hp hv.2.2 (ev_ok hs x hv.1) (ev_ok hs y hv.2.1)
  exact ⟨v,by simp [execOp,h1],h2⟩
 ·rename_i t x y
  obtain ⟨v,h1,h2⟩:=zkc (P:=P) (s:=s) hv.2.2 (ev_ok hs x hv.1) (ev_ok hs y hv.2.1)
  exact ⟨v,by simp [execOp,h1],h2⟩
 ·rename_i t x lo hi mx
  obtain ⟨v,h1,h2⟩:=zkd (P:=P) hp hs hv.2 (ev_ok hs x hv.1)
  exact ⟨v,by simp [execOp,h1],h2⟩
 ·rename_i t x
  obtain ⟨v,h1,h2⟩:=zgU (P:=P) hp hv.2 (ev_ok hs x hv.1)
  exact ⟨v,by simp [execOp,h1],h2⟩
 ·rename_i x
  obtain ⟨hg,hm⟩:=hv
  have hx:=ev_ok hs x hg
  refine ⟨a.eval x,?_,hx⟩
  simp only [execOp]
  generalize a.eval x=y at hx
  split at hm<;>rename_i he
  ·rw [he] at hx;simp only [Rep] at hx
   obtain ⟨b,cs,_,_,rfl⟩:=hx
   simp
  ·rw [he] at hx;simp only [Rep] at hx
   obtain ⟨b,t',cs,_,_,rfl⟩:=hx
   simp
  ·rw [he] at hx;simp only [Rep] at hx
   obtain ⟨a,c,T,fz,rfl,_⟩:=hx
   simp
  ·rw [he] at hx;simp only [Rep] at hx
   obtain ⟨-,xs,h1,h2,h3⟩:=hx
   obtain ⟨b,_,rfl⟩:=h3 (by simpa [AS.cur,h1] using hm)
   simp
  ·rw [he] at hx;simp only [Rep] at hx
   obtain ⟨p,q,rfl,_⟩:=hx
   simp
  ·exact hm.elim
 ·rename_i x i
  split at hv
  ·rename_i g vs he
   dsimp only at hv
   have hx:=ev_ok hs x (by rw [he];exact hv.1)
   rw [he] at hx
   simp only [Rep] at hx
   obtain ⟨us,hu,hr⟩:=hx
   obtain ⟨v,hv1,hv2⟩:=Reps.get hr (getD_some (d:= .any) hv.2)
   have:us[i]?=some v:=by simpa using hv1
   exact ⟨v,by simp [execOp,hu,Instr.extract,this],hv2⟩
  ·exact hv.elim
 ·rename_i t x y ok
  obtain ⟨v,h1,h2⟩:=zh9 (P:=P) hp hv.2.2 (ev_ok hs x hv.1) (ev_ok hs y hv.2.1)
  exact ⟨v,by simp [execOp,h1],h2⟩
 ·rename_i c
  obtain ⟨v,h1,h2⟩:=zlh (P:=P) hp hs (o:=ot) hv
  exact ⟨v,by simpa [execOp] using h1,h2⟩
 ·rename_i x xt T ok
  obtain ⟨v,h1,h2⟩:=zib (P:=P) (xt:=xt) hv.2 (ev_ok hs x hv.1)
  exact ⟨v,by simp [execOp,h1],h2⟩
end
open Go
theorem ze:∀ {h:AHeap} {i:Nat} {o o':AObj},hget h i=some o→hget (hset h i o') i=some o'
  | [],i,o,o',h=>by simp [hget] at h
  | (j,oj)::r,i,o,o',h=>by
    simp only [hget,hset] at h ⊢
    by_cases e:j=i
    · simp [e,hget]
    · simp only [e,if_false] at h ⊢
      simp [hget,e,ze h]
theorem zr:∀ {h:AHeap} {i j:Nat} {o':AObj},j≠i→hget (hset h i o') j=hget h j
  | [],i,j,o',_=>by simp [hset]
  | (k,ok)::r,i,j,o',hne=>by
    simp only [hset]
    by_cases e:k=i
    · simp only [e,if_true,hget]
      by_cases e2:i=j
      · exact absurd e2.symm hne
      · simp [e2]
    · simp only [e,if_false,hget,zr hne]
theorem zli {fl:Nat} :∀ {h:AHeap} {i:Nat},(hget h i).isSome→i<top fl h
  | [],i,hi=>by simp [hget] at hi
  | (k,o)::r,i,hi=>by
    simp only [hget] at hi
    simp only [top]
    by_cases e:k=i
    · subst e;split<;>omega
    · rw [if_neg e] at hi
      have:=zli (fl:=fl) hi
      split<;>omega
theorem zcZ (fl:Nat):∀ (h:AHeap),fl≤top fl h
  | []=>Nat.le_refl _
  | (k,o)::r=>by
    have:=zcZ fl r
    simp only [top]
    split<;>omega
theorem zO (fl:Nat) (h:AHeap):fl≤fresh fl h:=by
 unfold fresh
 split
 ·exact zcZ fl h
 ·exact Nat.le_refl _
theorem znx (fl:Nat) (h:AHeap):hget h (top fl h)=none:=by
 cases e:hget h (top fl h) with
 |none=>rfl
 |some o=>exact absurd (zli (fl:=fl) (h:=h) (i:=top fl h) (by rw [e];rfl)) (Nat.lt_irrefl _)
theorem zai (fl:Nat) (h:AHeap):hget h (fresh fl h)=none:=by
 unfold fresh
 split
 ·exact znx fl h
 ·rename_i e;simpa using e
theorem zd6 {fl:Nat} {h:AHeap} (e:hget h fl=none):fresh fl h=fl:=by
 unfold fresh
 rw [e];rfl
def Env.set (E:Env) (i:Nat) (b:Option Nat) (c:Nat):Env:= { E with O:=fun j=>if j=i then b else E.O j,C:=fun j=>if j=i then c else E.C j }
section
variable {E E' : Env} {h h' : AHeap} {w w' : World} {i : Nat}
structure Chg (E:Env) (h:AHeap) (w:World) (E':Env) (h':AHeap) (w':World) (i:Nat):Prop where
 os:w'.os=w.os
 tape:w'.tape=w.tape
 output:w'.output=w.output
 size:w.heap.size≤w'.heap.size
 envO:∀j,j≠i→E'.O j=E.O j
 envC:∀j,j≠i→E'.C j=E.C j
 M:E'.M=E.M
 N:E'.N=E.N
 hh:∀j,j≠i→hget h' j=hget h j
 gi:GoesOn E h E' h' i
 blk:∀b,b<w.heap.size→¬((hget h i).isSome∧E.O i=some b)→w'.heap[b]?=w.heap[b]?
 new:∀b,(hget h' i).isSome→E'.O i=some b→((hget h i).isSome∧E.O i=some b)∨(w.heap.size≤b∧b<w'.heap.size)
theorem Chg.goesOn (c:Chg E h w E' h' w' i) (j:Nat):GoesOn E h E' h' j:=by
 by_cases e:j=i
 ·subst e;exact c.gi
 ·unfold GoesOn
  rw [c.hh j e]
  cases hj:hget h j with
  |none=>trivial
  |some o=>cases o<;>simp [c.envO j e,c.envC j e]
theorem Chg.own (c:Chg E h w E' h' w' i) {b:Nat} (ho:Own E' h' b):Own E h b∨w.heap.size≤b:=by
 obtain ⟨j,hj,hb⟩:=ho
 by_cases e:j=i
 ·subst e
  rcases c.new b hj hb with ⟨h1,h2⟩|⟨h1,_⟩
  ·exact .inl ⟨j,h1,h2⟩
  ·exact .inr h1
 ·exact .inl ⟨j,by rwa [← c.hh j e],by rwa [← c.envO j e]⟩
theorem Chg.hX (c:Chg E h w E' h' w' i):∀b,b<w.heap.size→Xs E' h' b→Xs E h b:=fun b hb hx=>by
 rcases hx with hx|hx|hx
 ·rcases c.own hx with h1|h1
  ·exact .inl h1
  ·omega
 ·exact .inr (.inl (by rwa [← c.M]))
 ·exact .inr (.inr (by rwa [← c.N]))
theorem Chg.hK (c:Chg E h w E' h' w' i):∀b,b<w.heap.size→¬Xs E h b→w'.heap[b]?=w.heap[b]?:=fun b hb hx=>
 c.blk b hb (fun ⟨h1,h2⟩=>hx (.inl ⟨i,h1,h2⟩))
theorem Chg.rep (c:Chg E h w E' h' w' i) {a:AV} {v:Value} (hr:Rep w E h a v):Rep w' E' h' a v:=Rep.step c.hX c.hK a v (fun j _=>c.goesOn j) hr
theorem Chg.reps (c:Chg E h w E' h' w' i) {a:List AV} {v:List Value} (hr:Reps w E h a v):Reps w' E' h' a v:=Reps.step c.hX c.hK a v (fun j _=>c.goesOn j) hr
theorem Chg.rows (c:Chg E h w E' h' w' i) {k:Nat} {xs:List (List D)} {v:List Value} (hr:RepRows w (Xs E h) k xs v):RepRows w' (Xs E' h') k xs v:=RepRows.step c.hX c.hK k xs v hr
theorem Chg.evo {fl:Nat} (c:Chg E h w E' h' w' i) (hf:(hget h i).isSome∨fl≤i):Evo fl E h w E' h' w' where
 os:=c.os
 tape:=c.tape
 output:=c.output
 size:=c.size
 keep:=fun b hb ho _=>c.blk b hb (fun ⟨h1,h2⟩=>ho ⟨i,h1,h2⟩)
 own:=fun b hb=>c.own hb
 m1:=fun b hb=>by rwa [c.M]
 m2:=fun b hb=> .inl (by rwa [← c.M])
 n:=c.N
 go:=fun j hj hl=>⟨by
  by_cases e:j=i
  ·subst e;rcases hf with h|h
   ·exact h
   ·omega
  ·rwa [← c.hh j e],c.goesOn j⟩
theorem Chg.satH (c:Chg E h w E' h' w' i) (hs:SatH E h w) (hob:∀o,hget h' i=some o→RepObj w' E' h' i o):SatH E' h' w' where
 heap:=fun j o ho=>by
  by_cases e:j=i
  ·subst e;exact hob o ho
  ·have ho':=ho
   rw [c.hh j e] at ho'
   have:=hs.heap j o ho'
   have hne:∀b,E.O j=some b→¬((hget h i).isSome∧E.O i=some b):=fun b hb ⟨h1,h2⟩=>e (hs.inj j i b (by simp [ho']) h1 hb h2)
   have hlt:∀b,E.O j=some b→b<w.heap.size:=fun b hb=>(hs.own b ⟨j,by simp [ho'],hb⟩).1
   cases o with
   |var cs=>
    simp only [RepObj] at this ⊢
    obtain ⟨b,d,T,fz,h1,h2,h3,h4⟩:=this
    exact ⟨b,d,T,fz,by rw [c.envO j e];exact h1,(c.blk b (hlt b h1) (hne b h1)).trans h2,c.reps h3,h4⟩
   |tvar tt cs=>
    simp only [RepObj] at this ⊢
    obtain ⟨b,d,T,fz,h1,h2,h3,h4⟩:=this
    exact ⟨b,d,T,fz,by rw [c.envO j e];exact h1,(c.blk b (hlt b h1) (hne b h1)).trans h2,c.reps h3,h4⟩
   |arr k xs=>
    simp only [RepObj,c.envO j e,c.envC j e] at this ⊢
    rcases this with h0|⟨b,d,T,fz,h1,h2,h3,h4,h5,h6⟩
    ·exact .inl h0
    ·exact .inr ⟨b,d,T,fz,h1,(c.blk b (hlt b h1) (hne b h1)).trans h2,h3,h4,c.rows h5,h6⟩
   |buf tt xs=>
    simp only [RepObj,c.envO j e,c.envC j e] at this ⊢
    rcases this with h0|⟨b,d,T,fz,h1,h2,h3,h4,h5,h6⟩
    ·exact .inl h0
    ·exact .inr ⟨b,d,T,fz,h1,(c.blk b (hlt b h1) (hne b h1)).trans h2,h3,h4,h5,h6⟩
   |strit l p=>
    simp only [RepObj,c.envO j e] at this ⊢
    obtain ⟨b,h1,h2⟩:=this
    exact ⟨b,h1,(c.blk b (hlt b h1) (hne b h1)).trans h2⟩
   |omap es=>
    simp only [RepObj,c.envO j e] at this ⊢
    obtain ⟨b,m,cl,h1,h2,h3⟩:=this
    exact ⟨b,m,cl,h1,(c.blk b (hlt b h1) (hne b h1)).trans h2,h3⟩
 inj:=fun j l b hj hl h1 h2=>by
  have key:∀j b,j≠i→(hget h' j).isSome→E'.O j=some b→(hget h' i).isSome→E'.O i=some b→j=i:=fun j b e hj h1 hi h2=>by
   rw [c.hh j e] at hj
   rw [c.envO j e] at h1
   have hb:=(hs.own b ⟨j,hj,h1⟩).1
   rcases c.new b hi h2 with ⟨h3,h4⟩|⟨h3,_⟩
   ·exact hs.inj j i b hj h3 h1 h4
   ·omega
  by_cases e1:j=i
  ·by_cases e2:l=i
   ·rw [e1,e2]
   ·subst e1;exact (key l b e2 hl h2 hj h1).symm
  ·by_cases e2:l=i
   ·subst e2;exact key j b e1 hj h1 hl h2
   ·exact hs.inj j l b (by rwa [← c.hh j e1]) (by rwa [← c.hh l e2]) (by rwa [← c.envO j e1]) (by rwa [← c.envO l e2])
 own:=fun b hb=>by
  rcases hb with ⟨j,hj,hb⟩
  rw [c.M,c.N]
  by_cases e:j=i
  ·subst e
   rcases c.new b hj hb with ⟨h1,h2⟩|⟨h1,h2⟩
   ·have:=hs.own b ⟨j,h1,h2⟩
    exact ⟨Nat.lt_of_lt_of_le this.1 c.size,this.2⟩
   ·exact ⟨h2,fun hm=>by have:=hs.mlt b hm;omega,fun hm=>by have:=hs.nlt b hm;omega⟩
  ·have:=hs.own b ⟨j,by rwa [← c.hh j e],by rwa [← c.envO j e]⟩
   exact ⟨Nat.lt_of_lt_of_le this.1 c.size,this.2⟩
 mlt:=fun b hb=>Nat.lt_of_lt_of_le (hs.mlt b (by rwa [← c.M])) c.size
 nlt:=fun b hb=>Nat.lt_of_lt_of_le (hs.nlt b (by rwa [← c.N])) c.size
theorem Marks.step {base:Nat} {ds:List Deferred} (hm:Marks base E w ds) (hM:∀b,b<w.heap.size→E'.M b→E.M b)
  (hk:∀r,w.heap[r]?=some (.deferred (some []))→¬E.M r→w'.heap[r]?=w.heap[r]?):Marks base E' w' ds:=by
 refine ⟨fun d hd=>?_,hm.2⟩
 obtain ⟨r,h1,h2,h3,h4⟩:=hm.1 d hd
 exact ⟨r,h1,(hk r h2 h4).trans h2,h3,fun h=>h4 (hM r (Array.getElem?_eq_some_iff.1 h2).1 h)⟩
theorem SatH.not_mark (hs:SatH E h w) {r:Nat} {ds:Option (List Deferred)} (hr:w.heap[r]?=some (.deferred ds)):¬Own E h r:=by
 rintro ⟨j,hj,hb⟩
 obtain ⟨o,ho⟩:=Option.isSome_iff_exists.1 hj
 have:=hs.heap j o ho
 cases o with
 |var cs=>simp only [RepObj] at this;obtain ⟨b,d,T,fz,h1,h2,_⟩:=this;rw [hb] at h1;cases h1;rw [hr] at h2;cases h2
 |tvar tt cs=>simp only [RepObj] at this;obtain ⟨b,d,T,fz,h1,h2,_⟩:=this;rw [hb] at h1;cases h1;rw [hr] at h2;cases h2
 |arr k xs=>
  simp only [RepObj] at this
  rcases this with ⟨h0,_⟩|⟨b,d,T,fz,h1,h2,_⟩
  ·rw [hb] at h0;cases h0
  ·rw [hb] at h1;cases h1;rw [hr] at h2;cases h2
 |buf tt xs=>
  simp only [RepObj] at this
  rcases this with ⟨h0,_⟩|⟨b,d,T,fz,h1,h2,_⟩
  ·rw [hb] at h0;cases h0
  ·rw [hb] at h1;cases h1;rw [hr] at h2;cases h2
 |strit l p=>simp only [RepObj] at this;obtain ⟨b,h1,h2⟩:=this;rw [hb] at h1;cases h1;rw [hr] at h2;cases h2
 |omap es=>simp only [RepObj] at this;obtain ⟨b,m,c,h1,h2,_⟩:=this;rw [hb] at h1;cases h1;rw [hr] at h2;cases h2
theorem Chg.sat {cx:Cx} {t:List (Nat×(Bool×AV))} {g:Option (List (List AV))} {a:Act} (c:Chg E h w E' h' w' i) (hs:Sat cx E ⟨t,h,g⟩ a w) (hob:∀o,hget h' i=some o→RepObj w' E' h' i o):Sat cx E' ⟨t,h',g⟩ a w' where
 slots:=fun k gg v hk=>by
  obtain ⟨x,h1,h2,h3⟩:=hs.slots k gg v hk
  exact ⟨x,h1,fun e=>c.rep (h2 e),h3⟩
 nt:=hs.nt
 hp:=c.satH hs.hp hob
 base:=⟨Nat.le_trans hs.base.1 c.size,hs.base.2⟩
 marks:=hs.marks.step (fun b _ hb=>by rwa [← c.M]) (fun r hr _=>c.blk r (Array.getElem?_eq_some_iff.1 hr).1 (fun ⟨h1,h2⟩=>hs.hp.not_mark hr ⟨i,h1,h2⟩))
 ghost:=by
  rw [c.M,c.N]
  exact cx.stab _ _ _ _ _ _ _ (fun b hb ho=>c.blk b hb (fun ⟨h1,h2⟩=>ho (.inl ⟨i,h1,h2⟩))) (fun b hb=>hb.elim (fun hb=>(c.own hb).imp .inl id) (fun hb=> .inl (.inr hb))) (fun b hb=>hb.elim (fun h=>((c.satH hs.hp hob).own b h).1) (fun h=>Nat.lt_of_lt_of_le (hs.marks.lt h) c.size)) c.size c.tape c.os c.output hs.ghost
theorem Sat.put {cx:Cx} {s:AS} {a:Act} {d:Option Nat} {g:Bool} {v:AV} {x:Value} (hs:Sat cx E s a w) (hd:∀k,d=some k→k<cx.nt) (hr:g=true→Rep w E s.h v x) (hu:g=false→x=undef):
  Sat cx E (s.put d g v) (a.put d x) w:=by
 cases d with
 |none=>exact hs
 | some k=>
  refine ⟨?_,by simp [Act.put,hs.nt],hs.hp,hs.base,hs.marks,hs.ghost⟩
  intro j gg u hj
  simp only [AS.put,lk] at hj
  split at hj
  ·rename_i e;subst e
   simp only [Option.some.injEq,Prod.mk.injEq] at hj
   obtain ⟨rfl,rfl⟩:=hj
   have:k<a.tmps.size:=by rw [hs.nt];exact hd k rfl
   exact ⟨x,by simp [Act.put,this],hr,hu⟩
  ·rename_i e
   obtain ⟨y,h1,h2⟩:=hs.slots j gg u hj
   refine ⟨y,?_,h2⟩
   simp only [Act.put]
   rw [Array.getElem?_setIfInBounds_ne e]
   exact h1
end
open Go
def AV.leaf:AV→Bool
 | .agg _| .tup _| .any| .raw _=>false
 |_=>true
def AV.cells:AV→List AV
 | .agg cs=>cs
 |v=> [v]
def AV.cellsOk:AV→Bool
 | .agg cs=>cs.all AV.leaf
 |v=>v.leaf
def putL {α:Type} :List α→Nat→List α→List α
 |cs,_,[]=>cs
 |cs,o,v::vs=>putL (cs.set o v) (o+1) vs
theorem zbb {α:Type} :∀ (cs:List α) (o:Nat) (vs:List α),(putL cs o vs).length=cs.length
 |cs,o,[]=>rfl
 |cs,o,v::vs=>by simp [putL,zbb]
def putA:Array Value→Nat→List Value→Array Value
 |c,_,[]=>c
 |c,o,v::vs=>putA (c.setIfInBounds o v) (o+1) vs
theorem zaD:∀ (c:Array Value) (o:Nat) (vs:List Value),(putA c o vs).size=c.size
 |c,o,[]=>rfl
 |c,o,v::vs=>by simp [putA,zaD]
theorem zay:∀ (c:Array Value) (o:Nat) (vs:List Value),(putA c o vs).toList=putL c.toList o vs
 |c,o,[]=>rfl
 |c,o,v::vs=>by simp [putA,putL,zay]
section
variable {P : Program} {W : World} {E : Env} {h : AHeap}
theorem RepD.one {X:Nat→Prop} {x:D} {v:Value} (hr:RepD W X x v):v.oneCell'=true:=by
 cases x<;>simp only [RepD] at hr
 case sl=>
  rcases hr with ⟨_,a,cap,rfl⟩|⟨a,cap,c,T,fz,rfl,_⟩<;>rfl
 all_goals (subst hr;rfl)
theorem Rep.one {a:AV} {v:Value} (hl:a.leaf=true) (hr:Rep W E h a v):v.oneCell'=true:=by
 cases a<;>simp only [Rep] at hr
 case d=>exact RepD.one hr
 case osl=>obtain ⟨⟨_,_,_,rfl⟩,_⟩:=hr;rfl
 case ap=>obtain ⟨⟨_,rfl⟩,_⟩:=hr;rfl
 case agg=>cases hl
 case tup=>cases hl
 case any=>cases hl
 case raw=>cases hl
 case nils=>subst hr;rfl
 case nilfn=>subst hr;rfl
 case nilmap=>subst hr;rfl
 case dp=>obtain ⟨_,_,_,_,rfl,_⟩:=hr;rfl
 case vp=>obtain ⟨_,_,_,_,rfl⟩:=hr;rfl
 case bsl=>obtain ⟨⟨_,_,_,rfl⟩,_⟩:=hr;rfl
 case tp=>obtain ⟨_,_,_,_,_,rfl⟩:=hr;rfl
 case vsl=>obtain ⟨_,_,_,_,_,_,_,rfl⟩:=hr;rfl
 case asl=>obtain ⟨_,_,_,_,_,rfl,_⟩:=hr;rfl
 case fn=>obtain ⟨_,_,rfl,_⟩:=hr;rfl
 case map=>obtain ⟨_,_,_,_,rfl⟩:=hr;rfl
 case itr=>obtain ⟨_,_,_,_,_,rfl⟩:=hr;rfl
 case iface=>obtain ⟨_,rfl,_⟩:=hr;rfl
 case amap=>obtain ⟨_,_,_,rfl,_⟩:=hr;rfl
theorem Reps.putL:∀ {cs:List AV} {c:List Value},Reps W E h cs c→∀ (o:Nat) {vs:List AV} {us:List Value},Reps W E h vs us→Reps W E h (putL cs o vs) (putL c o us)
 |cs,c,hr,o,[],us,hu=>by simp only [Reps] at hu;subst hu;exact hr
 |cs,c,hr,o,v::vs,us,hu=>by
  simp only [Reps] at hu
  obtain ⟨u,r,rfl,h1,h2⟩:=hu
  exact Reps.putL (hr.set h1) (o+1) h2
def World.row (w:World) (b:Nat) (o:Obj):World:= { w with heap:=w.heap.setIfInBounds b o }
theorem zcC {w:World} {b:Nat} {c:Array Value} {T:TypeId} {fz:Nat×Nat} (hb:w.heap[b]?=some (.cells c T fz)) (o:Nat) (v:Value):w.setCell ⟨b,o,none⟩ v=World.row w b (.cells (c.setIfInBounds o v) T fz):=by
 obtain ⟨hlt,hb'⟩:=Array.getElem?_eq_some_iff.1 hb
 unfold World.setCell World.row
 congr 1
 apply Array.ext_getElem?
 intro j
 rw [Array.getElem?_modify]
 by_cases e:b=j
 ·subst e
  simp [hb,hlt,hb']
 ·simp only [e,if_false]
  rw [Array.getElem?_setIfInBounds_ne e]
theorem zbM {w:World} {b:Nat} {o:Obj} (h:b<w.heap.size):(World.row w b o).heap[b]?=some o:=by simp [World.row,h]
theorem zbc {w:World} {b k:Nat} {o:Obj} (h:k≠b):(World.row w b o).heap[k]?=w.heap[k]?:=by
 simp [World.row,Array.getElem?_setIfInBounds_ne (Ne.symm h)]
theorem zo1 {w:World} {b:Nat} {o o':Obj} :World.row (World.row w b o) b o'=World.row w b o':=by
 simp only [World.row]
 congr 1
 apply Array.ext_getElem?
 intro j
 by_cases e:b=j
 ·subst e
  by_cases hb:b<w.heap.size
  ·simp [hb]
  ·simp [hb]
 ·rw [Array.getElem?_setIfInBounds_ne e,Array.getElem?_setIfInBounds_ne e,Array.getElem?_setIfInBounds_ne e]
@[simp] theorem row_size {w:World} {b:Nat} {o:Obj} :(World.row w b o).heap.size=w.heap.size:=by simp [World.row]
theorem zas {b:Nat} {T:TypeId} {fz:Nat×Nat} (o:Nat):∀ (vs:List Value) (i:Nat) (c:Array Value) (w:World),w.heap[b]?=some (.cells c T fz)→zY fz c.size→o+i+vs.length≤c.size→(∀v∈vs,v.oneCell'=true)→
  (storeCells ⟨b,o,none⟩ vs i).run P w= .ok () (World.row w b (.cells (putA c (o+i) vs) T fz))
 | [],i,c,w,hb,_,_,_=>by
  simp only [storeCells,Sem.run_pure,putA]
  congr 1
  unfold World.row
  obtain ⟨hlt,hb'⟩:=Array.getElem?_eq_some_iff.1 hb
  rw [← hb']
  rw [Array.setIfInBounds_def,dif_pos hlt,Array.set_getElem_self]
 | v::vs,i,c,w,hb,hf,hl,h1=>by
  simp only [List.length_cons] at hl
  have hlt:=(Array.getElem?_eq_some_iff.1 hb).1
  have hc:w.cell? ⟨b,o+i,none⟩=some c[o+i]:=by rw [zn hb];exact Array.getElem?_eq_getElem (by omega)
  have hfz:w.frozen? ⟨b,o+i,none⟩=false:=by
   rw [zy hb]
   have:=hf (o+i) (by omega)
   simpa using this
  have ih:=zas o vs (i+1) (c.setIfInBounds (o+i) v) (World.row w b (.cells (c.setIfInBounds (o+i) v) T fz)) (zbM hlt) (by simpa using hf) (by simp;omega) (fun x hx=>h1 x (by simp [hx]))
  simp only [storeCells,Sem.run_bind,Addr.add_none]
  rw [run_store P w _ v .plain (h1 v (by simp))]
  simp only [hc,hfz,Bool.false_eq_true,if_false,Result.andThen_ok,zcC hb,ih,zo1,putA]
  rfl
theorem zb2 {b o:Nat} {t:TypeId} {c:Array Value} {T:TypeId} {fz:Nat×Nat} {v:Value} {w:World} (ht:(ty P t).td≠ .other) (hb:w.heap[b]?=some (.cells c T fz)) (hf:zY fz c.size) (hs:v.cells.size=(ty P t).size) (hl:o+(ty P t).size≤c.size) (h1:∀x∈v.cells.toList,x.oneCell'=true):
  (storeVar t ⟨b,o,none⟩ v).run P w= .ok () (World.row w b (.cells (putA c o v.cells.toList) T fz)):=by
 obtain ⟨d,hd⟩:=zak ht
 simp only [storeVar,Sem.run_bind,zo hd,Result.andThen_ok,hs,ne_eq,not_true_eq_false,if_false]
 rw [show ((do (pure PUnit.unit:Sem PUnit);storeCells ⟨b,o,none⟩ v.cells.toList):Sem Unit)=storeCells ⟨b,o,none⟩ v.cells.toList from rfl]
 have:=zas (P:=P) (fz:=fz) (T:=T) o v.cells.toList 0 c w hb hf (by simp [hs];omega) h1
 simpa using this
theorem Rep.cells {a:AV} {v:Value} (hr:Rep W E h a v) (hl:a.cellsOk=true):Reps W E h a.cells v.cells.toList∧∀x∈v.cells.toList,x.oneCell'=true:=by
 have key:∀ {aZ:List AV} {vs:List Value},Reps W E h aZ vs→aZ.all AV.leaf=true→∀x∈vs,x.oneCell'=true:=by
  intro aZ
  induction aZ with
  |nil=>intro vs hr _ x hx;simp only [Reps] at hr;subst hr;simp at hx
  |cons a aZ ih=>
   intro vs hr hl x hx
   simp only [Reps] at hr
   obtain ⟨v,r,rfl,h1,h2⟩:=hr
   simp only [List.all_cons,Bool.and_eq_true] at hl
   rcases List.mem_cons.1 hx with rfl|hx
   ·exact Rep.one hl.1 h1
   ·exact ih h2 hl.2 x hx
 by_cases hagg:∃cs,a= .agg cs
 ·obtain ⟨cs,rfl⟩:=hagg
  simp only [Rep] at hr
  obtain ⟨vs,rfl,h1⟩:=hr
  exact ⟨h1,key h1 hl⟩
 ·have hlf:a.leaf=true:=by cases a<;>first|(exact absurd ⟨_,rfl⟩ hagg)|exact hl
  have h1:=Rep.one hlf hr
  have e1:a.cells= [a]:=by cases a<;>first|(exact absurd ⟨_,rfl⟩ hagg)|rfl
  have e2:v.cells= #[v]:=by cases v<;>first|rfl|(simp [Value.oneCell'] at h1)
  rw [e1,e2]
  simp only [Reps]
  exact ⟨⟨v,[],rfl,hr,rfl⟩,by simpa using h1⟩
theorem zdu {w:World} (fl:Nat) (hs:SatH E h w) (ob:Obj) (o:AObj) (cap:Nat):Chg E h w (E.set (fresh fl h) (some w.heap.size) cap) ((fresh fl h,o)::h) (w.alloc ob) (fresh fl h) where
 os:=rfl
 tape:=rfl
 output:=rfl
 size:=by simp
 envO:=fun j e=>by simp [Env.set,e]
 envC:=fun j e=>by simp [Env.set,e]
 M:=rfl
 N:=rfl
 hh:=fun j e=>by simp [hget,Ne.symm e]
 gi:=by simp [GoesOn,zai]
 blk:=fun b hb _=>by
  show (w.heap.push ob)[b]?=_
  rw [Array.getElem?_push,if_neg (by omega)]
 new:=fun b _ hb=>by
  simp only [Env.set,if_true,Option.some.injEq] at hb
  subst hb
  exact .inr ⟨Nat.le_refl _,by simp⟩
theorem zaV (w:World) (ob:Obj):(w.alloc ob).heap[w.heap.size]?=some ob:=by
 show (w.heap.push ob)[w.heap.size]?=_
 simp
theorem zid {cx:Cx} {s:AS} {a:Act} {w:World} (hs:Sat cx E s a w) {cs:List AV} {vs:Array Value} (hr:Reps w E s.h cs vs.toList) (T:TypeId):
  Sat cx (E.set (fresh cx.fl s.h) (some w.heap.size) 0) { s with h:=(fresh cx.fl s.h,.var cs)::s.h } a (w.alloc (.cells vs T))∧Evo cx.fl E s.h w (E.set (fresh cx.fl s.h) (some w.heap.size) 0) ((fresh cx.fl s.h,.var cs)::s.h) (w.alloc (.cells vs T))∧
  Rep (w.alloc (.cells vs T)) (E.set (fresh cx.fl s.h) (some w.heap.size) 0) ((fresh cx.fl s.h,.var cs)::s.h) (.vp (fresh cx.fl s.h) 0) (.pointer (some ⟨w.heap.size,0,none⟩)):=by
 have c:=zdu cx.fl hs.hp (.cells vs T) (.var cs) 0
 refine ⟨c.sat hs (fun o ho=>?_),c.evo (.inr (zO _ _)),?_⟩
 ·simp [hget] at ho
  subst ho
  simp only [RepObj]
  exact ⟨w.heap.size,vs,T,(0,0),by simp [Env.set],zaV w _,c.reps hr,by simp [zY]⟩
 ·simp only [Rep]
  exact ⟨w.heap.size,cs,by simp [hget],by simp [Env.set],rfl⟩
theorem zfp {cx:Cx} {s:AS} {a:Act} {w:World} (hs:Sat cx E s a w) {cs:List AV} {vs:Array Value} (hr:Reps w E s.h cs vs.toList) (ty:Bool) (T:TypeId):
  Sat cx (E.set (fresh cx.fl s.h) (some w.heap.size) 0) { s with h:=(fresh cx.fl s.h,.vr ty T cs)::s.h } a (w.alloc (.cells vs T))∧Evo cx.fl E s.h w (E.set (fresh cx.fl s.h) (some w.heap.size) 0) ((fresh cx.fl s.h,.vr ty T cs)::s.h) (w.alloc (.cells vs T))∧
  Rep (w.alloc (.cells vs T)) (E.set (fresh cx.fl s.h) (some w.heap.size) 0) ((fresh cx.fl s.h,.vr ty T cs)::s.h) (.pt ty (fresh cx.fl s.h) 0) (.pointer (some ⟨w.heap.size,0,none⟩)):=by
 cases ty with
 |false=>exact zid hs hr T
 | true=>
  have c:=zdu cx.fl hs.hp (.cells vs T) (.tvar T cs) 0
  refine ⟨c.sat hs (fun o ho=>?_),c.evo (.inr (zO _ _)),?_⟩
  ·simp [hget,AObj.vr] at ho
   subst ho
   simp only [RepObj]
   exact ⟨w.heap.size,vs,T,(0,0),by simp [Env.set],zaV w _,c.reps hr,by simp [zY],rfl⟩
  ·simp only [AV.pt,AObj.vr,if_true,Rep]
   exact ⟨w.heap.size,T,cs,by simp [hget],by simp [Env.set],rfl⟩
theorem zlj {w:World} (hs:SatH E h w) {i:Nat} {cs cs':List AV} (hi:hget h i=some (.var cs)) (hl:cs'.length=cs.length) {b:Nat} (hb:E.O i=some b) (ob:Obj):Chg E h w E (hset h i (.var cs')) (World.row w b ob) i where
 os:=rfl
 tape:=rfl
 output:=rfl
 size:=by simp
 envO:=fun j e=>rfl
 envC:=fun j e=>rfl
 M:=rfl
 N:=rfl
 hh:=fun j e=>zr e
 gi:=by
  unfold GoesOn
  rw [hi]
  exact ⟨rfl,cs',ze hi,hl⟩
 blk:=fun k hk hn=>zbc (fun e=>hn ⟨by simp [hi],by rw [hb,e]⟩)
 new:=fun k _ hk=> .inl ⟨by simp [hi],hk⟩
theorem zd7 {w:World} (hs:SatH E h w) {i:Nat} {t:TypeId} {cs cs':List AV} (hi:hget h i=some (.tvar t cs)) (hl:cs'.length=cs.length) {b:Nat} (hb:E.O i=some b) (ob:Obj):Chg E h w E (hset h i (.tvar t cs')) (World.row w b ob) i where
 os:=rfl
 tape:=rfl
 output:=rfl
 size:=by simp
 envO:=fun j e=>rfl
 envC:=fun j e=>rfl
 M:=rfl
 N:=rfl
 hh:=fun j e=>zr e
 gi:=by
  unfold GoesOn
  rw [hi]
  exact ⟨rfl,cs',ze hi,hl⟩
 blk:=fun k hk hn=>zbc (fun e=>hn ⟨by simp [hi],by rw [hb,e]⟩)
 new:=fun k _ hk=> .inl ⟨by simp [hi],hk⟩
theorem zny {cx:Cx} {s:AS} {a:Act} {w:World} (hs:Sat cx E s a w) {i:Nat} {t:TypeId} {cs vs:List AV} (hi:hget s.h i=some (.tvar t cs)) {o:Nat} {us:List Value} (hr:Reps w E s.h vs us)
  {b:Nat} {c:Array Value} {T:TypeId} {fz:Nat×Nat} (hb:E.O i=some b) (hc:w.heap[b]?=some (.cells c T fz)):
  Sat cx E { s with h:=hset s.h i (.tvar t (Aw.putL cs o vs)) } a (World.row w b (.cells (putA c o us) T fz))∧Evo cx.fl E s.h w E (hset s.h i (.tvar t (Aw.putL cs o vs))) (World.row w b (.cells (putA c o us) T fz)):=by
 have ch:=zd7 hs.hp hi (cs':=Aw.putL cs o vs) (zbb _ _ _) hb (.cells (putA c o us) T fz)
 refine ⟨ch.sat hs (fun ob ho=>?_),ch.evo (.inl (by simp [hi]))⟩
 rw [ze hi] at ho
 cases ho
 obtain ⟨b',c',T',fz',h1,h2,h3,h4,h5⟩:=hs.hp.tvar hi
 rw [hb] at h1;cases h1
 rw [hc] at h2;cases h2
 simp only [RepObj]
 refine ⟨b,putA c o us,T,fz,hb,zbM (Array.getElem?_eq_some_iff.1 hc).1,?_,by rw [zaD];exact h4,h5⟩
 rw [zay]
 exact Reps.putL (ch.reps h3) o (ch.reps hr)
theorem zo2 {cx:Cx} {s:AS} {a:Act} {w:World} (hs:Sat cx E s a w) {i:Nat} {cs vs:List AV} (hi:hget s.h i=some (.var cs)) {o:Nat} {us:List Value} (hr:Reps w E s.h vs us)
  {b:Nat} {c:Array Value} {T:TypeId} {fz:Nat×Nat} (hb:E.O i=some b) (hc:w.heap[b]?=some (.cells c T fz)):
  Sat cx E { s with h:=hset s.h i (.var (Aw.putL cs o vs)) } a (World.row w b (.cells (putA c o us) T fz))∧Evo cx.fl E s.h w E (hset s.h i (.var (Aw.putL cs o vs))) (World.row w b (.cells (putA c o us) T fz)):=by
 have ch:=zlj hs.hp hi (cs':=Aw.putL cs o vs) (zbb _ _ _) hb (.cells (putA c o us) T fz)
 refine ⟨ch.sat hs (fun ob ho=>?_),ch.evo (.inl (by simp [hi]))⟩
 rw [ze hi] at ho
 cases ho
 obtain ⟨b',c',T',fz',h1,h2,h3,h4⟩:=hs.hp.var hi
 rw [hb] at h1;cases h1
 rw [hc] at h2;cases h2
 simp only [RepObj]
 refine ⟨b,putA c o us,T,fz,hb,zbM (Array.getElem?_eq_some_iff.1 hc).1,?_,by rw [zaD];exact h4⟩
 rw [zay]
 exact Reps.putL (ch.reps h3) o (ch.reps hr)
end
open Go
def AV.toD:AV→Option D
 | .d x=>some x
 | .nils k=>some (.sl k [])
 |_=>none
def toDs:List AV→Option (List D)
 | []=>some []
 |a::aZ=>match a.toD,toDs aZ with
  |some x,some xs=>some (x::xs)
  |_,_=>none
def zfq:List (List AV)→Option (List (List D))
 | []=>some []
 |a::aZ=>match toDs a,zfq aZ with
  |some x,some xs=>some (x::xs)
  |_,_=>none
def AV.tag (P:Program) (t:TypeId) (v:AV):AV:=
 match v with
 | .nils k=>(match (ty P t).td with
  | .slice e=> .nils (ty P e).size
  |_=> .nils k)
 |v=>v
section
variable {P : Program} {W : World} {E : Env} {h : AHeap} {X : Nat → Prop}
theorem Rep.tag {a:AV} {v:Value} {t:TypeId} (hr:Rep W E h a v):Rep W E h (a.tag P t) v:=by
 unfold AV.tag
 split
 ·split<;>simpa only [Rep] using hr
 ·exact hr
theorem Rep.toD {a:AV} {x:D} {v:Value} (hr:Rep W E h a v) (hd:a.toD=some x):RepD W (Xs E h) x v:=by
 cases a<;>simp only [AV.toD,Option.some.injEq,reduceCtorEq] at hd
 ·subst hd;simpa only [Rep] using hr
 ·subst hd
  simp only [Rep] at hr
  simp only [RepD]
  exact .inl ⟨by simp,none,0,hr⟩
theorem Reps.toDs:∀ {aZ:List AV} {xs:List D} {vs:List Value},Reps W E h aZ vs→toDs aZ=some xs→RepDs W (Xs E h) xs vs
 | [],xs,vs,hr,hd=>by simp only [Aw.toDs,Option.some.injEq] at hd;subst hd;simpa only [Reps,RepDs] using hr
 | a::aZ,xs,vs,hr,hd=>by
  simp only [Aw.toDs] at hd
  split at hd
  ·rename_i x ys h1 h2
   cases hd
   simp only [Reps] at hr
   obtain ⟨v,r,rfl,h3,h4⟩:=hr
   simp only [RepDs]
   exact ⟨v,r,rfl,h3.toD h1,Reps.toDs h4 h2⟩
  ·cases hd
theorem RepDs.set:∀ {aZ:List D} {vs:List Value},RepDs W X aZ vs→∀ {i:Nat} {a:D} {v:Value},RepD W X a v→RepDs W X (aZ.set i a) (vs.set i v)
 | [],_,hr,i,a,v,_=>by simp only [RepDs] at hr;subst hr;simp [RepDs]
 |b::aZ,_,hr,i,a,x,hx=>by
  simp only [RepDs] at hr
  obtain ⟨v,r,rfl,h2,h3⟩:=hr
  cases i with
  |zero=>simp only [List.set_cons_zero,RepDs];exact ⟨_,_,rfl,hx,h3⟩
  |succ i=>simp only [List.set_cons_succ,RepDs];exact ⟨_,_,rfl,h2,RepDs.set h3 hx⟩
theorem RepDs.putL:∀ {cs:List D} {c:List Value},RepDs W X cs c→∀ (o:Nat) {vs:List D} {us:List Value},RepDs W X vs us→RepDs W X (putL cs o vs) (putL c o us)
 |cs,c,hr,o,[],us,hu=>by simp only [RepDs] at hu;subst hu;exact hr
 |cs,c,hr,o,v::vs,us,hu=>by
  simp only [RepDs] at hu
  obtain ⟨u,r,rfl,h1,h2⟩:=hu
  exact RepDs.putL (hr.set h1) (o+1) h2
theorem zgW {α:Type} :∀ (us cs:List α) (o k:Nat),o+us.length≤k→(putL cs o us).take k=putL (cs.take k) o us
 | [],cs,o,k,_=>rfl
 |u::us,cs,o,k,hl=>by
  simp only [putL,List.length_cons] at hl ⊢
  rw [zgW us _ _ _ (by omega),List.take_set]
theorem zgX {α:Type} :∀ (us cs:List α) (o k:Nat),k≤o→(putL cs o us).drop k=putL (cs.drop k) (o - k) us
 | [],cs,o,k,_=>rfl
 |u::us,cs,o,k,hl=>by
  simp only [putL]
  rw [zgX us _ _ _ (by omega),List.drop_set,if_neg (by omega),show o+1 - k=o - k+1 by omega]
theorem zdO {α:Type} :∀ (us cs:List α) (o k:Nat),k≤o→(putL cs o us).take k=cs.take k
 | [],cs,o,k,_=>rfl
 |u::us,cs,o,k,hl=>by
  simp only [putL]
  rw [zdO us _ _ _ (by omega),List.take_set_of_le (by omega)]
theorem zdP {α:Type} :∀ (us cs:List α) (o k:Nat),o+us.length≤k→(putL cs o us).drop k=cs.drop k
 | [],cs,o,k,_=>rfl
 |u::us,cs,o,k,hl=>by
  simp only [putL,List.length_cons] at hl ⊢
  rw [zdP us _ _ _ (by omega),List.drop_set,if_pos (by omega)]
theorem RepRows.put {k:Nat} :∀ {xs:List (List D)} {vs:List Value},RepRows W X k xs vs→∀ {r o:Nat} {ds:List D} {us:List Value},r<xs.length→o+us.length≤k→RepDs W X ds us→
  RepRows W X k (xs.set r (Aw.putL (xs.getD r []) o ds)) (Aw.putL vs (r*k+o) us)
 | [],vs,_,r,o,ds,us,hr,_,_=>by simp at hr
 |x::xs,vs,hx,0,o,ds,us,_,ho,hd=>by
  simp only [RepRows,List.set_cons_zero,List.getD_cons_zero,Nat.zero_mul,Nat.zero_add] at hx ⊢
  refine ⟨by rw [zbb];exact hx.1,?_,?_⟩
  ·rw [zgW _ _ _ _ ho];exact hx.2.1.putL o hd
  ·rw [zdP _ _ _ _ ho];exact hx.2.2
 | x::xs,vs,hx,r+1,o,ds,us,hr,ho,hd=>by
  simp only [RepRows,List.set_cons_succ,List.getD_cons_succ,List.length_cons] at hx hr ⊢
  refine ⟨hx.1,?_,?_⟩
  ·rw [zdO _ _ _ _ (by rw [Nat.succ_mul];omega)];exact hx.2.1
  ·rw [zgX _ _ _ _ (by rw [Nat.succ_mul];omega),show (r+1)*k+o - k=r*k+o by rw [Nat.succ_mul];omega]
   exact RepRows.put hx.2.2 (by omega) ho hd
theorem zo3 {w:World} {k:Nat} {i:Nat} {xs xs':List (List D)} (hi:hget h i=some (.arr k xs)) (hl:xs'.length=xs.length) {b:Nat} (hb:E.O i=some b) (ob:Obj):Chg E h w E (hset h i (.arr k xs')) (World.row w b ob) i where
 os:=rfl
 tape:=rfl
 output:=rfl
 size:=by simp
 envO:=fun j e=>rfl
 envC:=fun j e=>rfl
 M:=rfl
 N:=rfl
 hh:=fun j e=>zr e
 gi:=by
  unfold GoesOn
  rw [hi]
  exact ⟨xs',ze hi,by omega,fun _=>⟨rfl,rfl⟩⟩
 blk:=fun k hk hn=>zbc (fun e=>hn ⟨by simp [hi],by rw [hb,e]⟩)
 new:=fun k _ hk=> .inl ⟨by simp [hi],hk⟩
theorem zie {cx:Cx} {s:AS} {a:Act} {w:World} (hs:Sat cx E s a w) {i k:Nat} {xs:List (List D)} (hi:hget s.h i=some (.arr k xs)) {r o:Nat} {ds:List D} {us:List Value} (hd:RepDs w (Xs E s.h) ds us)
  (hr:r<xs.length) (ho:o+us.length≤k) {b:Nat} {c:Array Value} {T:TypeId} {fz:Nat×Nat} (hb:E.O i=some b) (hc:w.heap[b]?=some (.cells c T fz)):
  Sat cx E { s with h:=hset s.h i (.arr k (xs.set r (Aw.putL (xs.getD r []) o ds))) } a (World.row w b (.cells (putA c (r*k+o) us) T fz))∧Evo cx.fl E s.h w E (hset s.h i (.arr k (xs.set r (Aw.putL (xs.getD r []) o ds)))) (World.row w b (.cells (putA c (r*k+o) us) T fz)):=by
 have ch:=zo3 (E:=E) (w:=w) hi (xs':=xs.set r (Aw.putL (xs.getD r []) o ds)) (by simp) hb (.cells (putA c (r*k+o) us) T fz)
 refine ⟨ch.sat hs (fun ob ho=>?_),ch.evo (.inl (by simp [hi]))⟩
 rw [ze hi] at ho
 cases ho
 have:=hs.hp.heap i _ hi
 simp only [RepObj] at this ⊢
 rcases this with ⟨h0,_⟩|⟨b',c',T',fz',h1,h2,h3,h4,h5,h6⟩
 ·rw [hb] at h0;cases h0
 rw [hb] at h1;cases h1
 rw [hc] at h2;cases h2
 refine .inr ⟨b,putA c (r*k+o) us,T,fz,hb,zbM (Array.getElem?_eq_some_iff.1 hc).1,by rw [zaD];exact h3,by simpa using h4,?_,by rw [zaD];exact h6⟩
 rw [zay]
 have hd':RepDs (World.row w b (.cells (putA c (r*k+o) us) T fz)) (Xs E (hset s.h i (.arr k (xs.set r (Aw.putL (xs.getD r []) o ds))))) ds us:=RepDs.step ch.hX ch.hK _ _ hd
 exact RepRows.put (ch.rows h5) hr ho hd'
theorem zcD {cx:Cx} {s:AS} {a:Act} {w:World} (hs:Sat cx E s a w) {k cap:Nat} {xs:List (List D)} {vs:Array Value} (hr:RepRows w (Xs E s.h) k xs vs.toList) (hl:xs.length≤cap) (hz:vs.size=cap*k) (T:TypeId) (w':World) (hw:w'=w.alloc (.cells vs T)):
  Sat cx (E.set (fresh cx.fl s.h) (some w.heap.size) cap) { s with h:=(fresh cx.fl s.h,.arr k xs)::s.h } a w'∧Evo cx.fl E s.h w (E.set (fresh cx.fl s.h) (some w.heap.size) cap) ((fresh cx.fl s.h,.arr k xs)::s.h) w'∧
  Rep w' (E.set (fresh cx.fl s.h) (some w.heap.size) cap) ((fresh cx.fl s.h,.arr k xs)::s.h) (.osl (fresh cx.fl s.h) k xs.length 0 xs.length) (.slice (some ⟨w.heap.size,0,none⟩) xs.length cap):=by
 subst hw
 have c:=zdu cx.fl hs.hp (.cells vs T) (.arr k xs) cap
 refine ⟨c.sat hs (fun o ho=>?_),c.evo (.inr (zO _ _)),?_⟩
 ·simp [hget] at ho
  subst ho
  simp only [RepObj]
  exact .inr ⟨w.heap.size,vs,T,(0,0),by simp [Env.set],zaV w _,by simpa [Env.set] using hz,by simpa [Env.set] using hl,c.rows hr,by simp [zY]⟩
 ·simp only [Rep]
  exact ⟨⟨_,_,_,rfl⟩,xs,by simp [hget],Nat.le_refl _,by omega,fun _=> .inr (.inl ⟨w.heap.size,by simp [Env.set],by simp [Env.set]⟩)⟩
theorem zgY {cx:Cx} {s:AS} {a:Act} {w:World} (hs:Sat cx E s a w) (ob:Obj):Sat cx E s a (w.alloc ob)∧Evo cx.fl E s.h w E s.h (w.alloc ob)∧(∀x v,Rep w E s.h x v→Rep (w.alloc ob) E s.h x v):=by
 have hk:∀b,b<w.heap.size→(w.alloc ob).heap[b]?=w.heap[b]?:=fun b hb=>by
  show (w.heap.push ob)[b]?=_
  rw [Array.getElem?_push,if_neg (by omega)]
 have hev:Evo cx.fl E s.h w E s.h (w.alloc ob):=⟨rfl,rfl,rfl,by simp,fun b hb _ _=>hk b hb,fun _ hb=> .inl hb,fun _ hm=>hm,fun _ hm=> .inl hm,rfl,fun i _ hi=>⟨hi,GoesOn.refl E _ i⟩⟩
 have hrep:∀x v,Rep w E s.h x v→Rep (w.alloc ob) E s.h x v:=fun x v hr=>Rep.step (fun _ _ hx=>hx) (fun b hb _=>hk b hb) x v (fun j _=>GoesOn.refl E s.h j) hr
 refine ⟨⟨fun j g v hj=>?_,hs.nt,⟨fun i o ho=>?_,hs.hp.inj,fun b hb=>?_,fun b hb=>?_,fun b hb=>?_⟩,⟨by have:=hs.base.1;simp;omega,hs.base.2⟩,?_,?_⟩,hev,hrep⟩
 ·obtain ⟨x,h1,h2,h3⟩:=hs.slots j g v hj
  exact ⟨x,h1,fun e=>hrep _ _ (h2 e),h3⟩
 ·have:=hs.hp.heap i o ho
  have hlt:∀b,E.O i=some b→b<w.heap.size:=fun b hb=>(hs.hp.own b ⟨i,by simp [ho],hb⟩).1
  cases o with
  |var cs=>
   simp only [RepObj] at this ⊢
   obtain ⟨b,d,T,fz,h1,h2,h3,h4⟩:=this
   exact ⟨b,d,T,fz,h1,(hk b (hlt b h1)).trans h2,Reps.step (fun _ _ hx=>hx) (fun b hb _=>hk b hb) _ _ (fun j _=>GoesOn.refl E s.h j) h3,h4⟩
  |tvar tt cs=>
   simp only [RepObj] at this ⊢
   obtain ⟨b,d,T,fz,h1,h2,h3,h4⟩:=this
   exact ⟨b,d,T,fz,h1,(hk b (hlt b h1)).trans h2,Reps.step (fun _ _ hx=>hx) (fun b hb _=>hk b hb) _ _ (fun j _=>GoesOn.refl E s.h j) h3,h4⟩
  |arr k xs=>
   simp only [RepObj] at this ⊢
   rcases this with h0|⟨b,d,T,fz,h1,h2,h3,h4,h5,h6⟩
   ·exact .inl h0
   ·exact .inr ⟨b,d,T,fz,h1,(hk b (hlt b h1)).trans h2,h3,h4,RepRows.step (fun _ _ hx=>hx) (fun b hb _=>hk b hb) _ _ _ h5,h6⟩
  |buf tt xs=>
   simp only [RepObj] at this ⊢
   rcases this with h0|⟨b,d,T,fz,h1,h2,h3,h4,h5,h6⟩
   ·exact .inl h0
   ·exact .inr ⟨b,d,T,fz,h1,(hk b (hlt b h1)).trans h2,h3,h4,h5,h6⟩
  |strit l p=>
   simp only [RepObj] at this ⊢
   obtain ⟨b,h1,h2⟩:=this
   exact ⟨b,h1,(hk b (hlt b h1)).trans h2⟩
  |omap es=>
   simp only [RepObj] at this ⊢
   obtain ⟨b,m,cl,h1,h2,h3⟩:=this
   exact ⟨b,m,cl,h1,(hk b (hlt b h1)).trans h2,h3⟩
 ·have:=hs.hp.own b hb
  exact ⟨by simp;omega,this.2⟩
 ·have:=hs.hp.mlt b hb;simp;omega
 ·have:=hs.hp.nlt b hb;simp;omega
 ·exact hs.marks.step (fun _ _ h=>h) (fun r hr _=>hk r (Array.getElem?_eq_some_iff.1 hr).1)
 ·exact cx.stab _ _ _ _ _ _ _ (fun b hb _=>hk b hb) (fun _ hb=> .inl hb) (fun b hb=>by have:=hb.elim (fun h=>(hs.hp.own b h).1) hs.marks.lt;simp;omega) (by simp) rfl rfl rfl hs.ghost
def fillL (pl:Nat→Option (Nat×Nat)):List AV→List (Nat×AV)→Prop×List AV
 |cs,[]=>(True,cs)
 | cs,(i,v)::r=>match pl i with
  |some (off,sz)=>let q:=fillL pl (Aw.putL cs off v.cells) r
   (v.cells.length=sz∧v.cellsOk=true∧off+sz≤cs.length∧q.1,q.2)
  |none=>(False,cs)
theorem zfr (off:Nat):∀ (l:List Value) (j:Nat) (c:Array Value),(l.zipIdx j).foldl (fun (cs:Array Value) (p:Value×Nat)=>cs.setIfInBounds (off+p.2) p.1) c=putA c (off+j) l
 | [],j,c=>rfl
 |v::l,j,c=>by
  simp only [List.zipIdx_cons,List.foldl_cons,putA]
  exact zfr off l (j+1) _
theorem zfU {pl:Nat→Option (Nat×Nat)} :∀ (parts:List (Nat×AV)) (vals:List (Nat×Value)) (cs:List AV) (c:Array Value),(fillL pl cs parts).1→Reps W E h cs c.toList→
    (parts.length=vals.length∧∀ (j i:Nat) (x:AV),parts[j]?=some (i,x)→∃v,vals[j]?=some (i,v)∧Rep W E h x v)→∃c',Instr.fill pl c vals=some c'∧Reps W E h (fillL pl cs parts).2 c'.toList
  | [],vals,cs,c,_,hr,hl=>by
    have:vals= []:=by
      have:=hl.1;simp at this;exact List.eq_nil_of_length_eq_zero this.symm
    subst this
    exact ⟨c,rfl,hr⟩
  |(i,x)::parts,[],cs,c,_,_,hl=>by simp at hl
  | (i, x)::parts,(i',v)::vals,cs,c,hv,hr,hl=>by
    obtain ⟨v',h1,h2⟩:=hl.2 0 i x rfl
    simp only [List.getElem?_cons_zero,Option.some.injEq,Prod.mk.injEq] at h1
    obtain ⟨rfl,rfl⟩:=h1
    simp only [fillL] at hv ⊢
    cases hp:pl i' with
    |none=>simp [hp] at hv
    | some p=>
      obtain ⟨off,sz⟩:=p
      simp only [hp] at hv ⊢
      obtain ⟨g1,g2,g3,g4⟩:=hv
      obtain ⟨g5,g6⟩:=h2.cells g2
      have e1:=Reps.length g5
      have e2:=Reps.length hr
      have hsz:v.cells.size=sz:=by rw [← g1,← e1];simp
      obtain ⟨c',q1,q2⟩:=zfU parts vals (Aw.putL cs off x.cells) (putA c off v.cells.toList) g4 (by rw [zay];exact hr.putL off g5)
        ⟨by have:=hl.1;simpa using this,fun j a y hj=>hl.2 (j+1) a y (by simpa using hj)⟩
      refine ⟨c',?_,q2⟩
      have hcs:c.size=cs.length:=by rw [← e2];simp
      simp only [Instr.fill,hp,hsz,ne_eq,not_true_eq_false,decide_false,Bool.false_or]
      rw [if_neg (by simp;omega)]
      rw [← q1]
      congr 1
      have:=zfr off v.cells.toList 0 c
      rw [Nat.add_zero] at this
      rw [← this,← Array.toList_zipIdx,Array.foldl_toList]
end
open Go
section
variable {P : Program} {W : World} {E : Env} {h : AHeap}
theorem zo4 {w:World} {i:Nat} {es es':List (D×D)} (hi:hget h i=some (.omap es)) {b:Nat} (hb:E.O i=some b) (ob:Obj):Chg E h w E (hset h i (.omap es')) (World.row w b ob) i where
 os:=rfl
 tape:=rfl
 output:=rfl
 size:=by simp
 envO:=fun j e=>rfl
 envC:=fun j e=>rfl
 M:=rfl
 N:=rfl
 hh:=fun j e=>zr e
 gi:=by
  unfold GoesOn
  rw [hi]
  exact ⟨rfl,es',ze hi⟩
 blk:=fun k hk hn=>zbc (fun e=>hn ⟨by simp [hi],by rw [hb,e]⟩)
 new:=fun k _ hk=> .inl ⟨by simp [hi],hk⟩
theorem zo5 {cx:Cx} {s:AS} {a:Act} {w:World} (hs:Sat cx E s a w) {i:Nat} {es es':List (D×D)} (hi:hget s.h i=some (.omap es)) {b:Nat} (hb:E.O i=some b) {mes mes':Array MapEntry} {c c':Nat} (hc:w.heap[b]?=some (.map mes c)) (ho:esOk es' mes'):
  Sat cx E { s with h:=hset s.h i (.omap es') } a (World.row w b (.map mes' c'))∧Evo cx.fl E s.h w E (hset s.h i (.omap es')) (World.row w b (.map mes' c')):=by
 have ch:=zo4 (E:=E) (w:=w) hi (es':=es') hb (.map mes' c')
 refine ⟨ch.sat hs (fun ob hob=>?_),ch.evo (.inl (by simp [hi]))⟩
 rw [ze hi] at hob
 cases hob
 simp only [RepObj]
 exact ⟨b,mes',c',hb,zbM (Array.getElem?_eq_some_iff.1 hc).1,ho⟩
theorem zp2 {w:World} {i:Nat} {l:List UInt8} {p p':Nat} (hi:hget h i=some (.strit l p)) {b:Nat} (hb:E.O i=some b) (ob:Obj):Chg E h w E (hset h i (.strit l p')) (World.row w b ob) i where
 os:=rfl
 tape:=rfl
 output:=rfl
 size:=by simp
 envO:=fun j e=>rfl
 envC:=fun j e=>rfl
 M:=rfl
 N:=rfl
 hh:=fun j e=>zr e
 gi:=by
  unfold GoesOn
  rw [hi]
  exact ⟨rfl,p',ze hi⟩
 blk:=fun j hj hn=>zbc (fun e=>hn ⟨by simp [hi],by rw [hb,e]⟩)
 new:=fun j _ hj=> .inl ⟨by simp [hi],hj⟩
theorem zp3 {cx:Cx} {s:AS} {a:Act} {w:World} (hs:Sat cx E s a w) {i:Nat} {l:List UInt8} {p p':Nat} (hi:hget s.h i=some (.strit l p)) {b:Nat} (hb:E.O i=some b) (hlt:b<w.heap.size):
  Sat cx E { s with h:=hset s.h i (.strit l p') } a (World.row w b (.stringIter ⟨l.toArray⟩ p'))∧Evo cx.fl E s.h w E (hset s.h i (.strit l p')) (World.row w b (.stringIter ⟨l.toArray⟩ p')):=by
 have ch:=zp2 (E:=E) (w:=w) hi (p':=p') hb (.stringIter ⟨l.toArray⟩ p')
 refine ⟨ch.sat hs (fun ob hob=>?_),ch.evo (.inl (by simp [hi]))⟩
 rw [ze hi] at hob
 cases hob
 simp only [RepObj]
 exact ⟨b,hb,zbM hlt⟩
theorem zke {cx:Cx} {s:AS} {a:Act} {w:World} (hs:Sat cx E s a w) (l:List UInt8):
  Sat cx (E.set (fresh cx.fl s.h) (some w.heap.size) 0) { s with h:=(fresh cx.fl s.h,.strit l 0)::s.h } a (w.alloc (.stringIter ⟨l.toArray⟩ 0))∧Evo cx.fl E s.h w (E.set (fresh cx.fl s.h) (some w.heap.size) 0) ((fresh cx.fl s.h,.strit l 0)::s.h) (w.alloc (.stringIter ⟨l.toArray⟩ 0))∧
  Rep (w.alloc (.stringIter ⟨l.toArray⟩ 0)) (E.set (fresh cx.fl s.h) (some w.heap.size) 0) ((fresh cx.fl s.h,.strit l 0)::s.h) (.itr (fresh cx.fl s.h)) (.pointer (some ⟨w.heap.size,0,none⟩)):=by
 have c:=zdu cx.fl hs.hp (.stringIter ⟨l.toArray⟩ 0) (.strit l 0) 0
 refine ⟨c.sat hs (fun o ho=>?_),c.evo (.inr (zO _ _)),?_⟩
 ·simp [hget] at ho
  subst ho
  simp only [RepObj]
  exact ⟨w.heap.size,by simp [Env.set],zaV w _⟩
 ·simp only [Rep]
  exact ⟨_,l,0,by simp [hget],by simp [Env.set],rfl⟩
theorem zif {cx:Cx} {s:AS} {a:Act} {w:World} (hs:Sat cx E s a w):
  Sat cx (E.set (fresh cx.fl s.h) (some w.heap.size) 0) { s with h:=(fresh cx.fl s.h,.omap [])::s.h } a (w.alloc (.map #[] 0))∧Evo cx.fl E s.h w (E.set (fresh cx.fl s.h) (some w.heap.size) 0) ((fresh cx.fl s.h,.omap [])::s.h) (w.alloc (.map #[] 0))∧
  Rep (w.alloc (.map #[] 0)) (E.set (fresh cx.fl s.h) (some w.heap.size) 0) ((fresh cx.fl s.h,.omap [])::s.h) (.map (fresh cx.fl s.h)) (.map (some w.heap.size)):=by
 have c:=zdu cx.fl hs.hp (.map #[] 0) (.omap []) 0
 refine ⟨c.sat hs (fun o ho=>?_),c.evo (.inr (zO _ _)),?_⟩
 ·simp [hget] at ho
  subst ho
  simp only [RepObj]
  exact ⟨w.heap.size,#[],0,by simp [Env.set],zaV w _,rfl,rfl⟩
 ·simp only [Rep]
  exact ⟨_,[],by simp [hget],by simp [Env.set],rfl⟩
theorem znz {es:List (D×D)} {mes:Array MapEntry} (ho:esOk es mes) {k v:D} (hk:k.scal=true) (hv:v.scal=true) (born:Nat):
  esOk (mput k v es) (match mix k es with|some q=>mes.modify q.1 (fun e=> { e with key:=valD k,val:=valD v })|none=>mes.push { key:=valD k,val:=valD v,born:=born }):=by
 rw [zjb]
 cases hm:mix k es with
 |none=>
  refine ⟨by simp [ho.1,hk,hv],?_⟩
  simp [ho.2]
 | some q=>
  obtain ⟨p,h1,h2,h3⟩:=zjc k es q hm
  refine ⟨?_,?_⟩
  ·simp only [List.all_eq_true] at*
   intro x hx
   rcases List.mem_or_eq_of_mem_set hx with hx|rfl
   ·exact List.all_eq_true.1 ho.1 x hx
   ·simp [hk,hv]
  ·apply List.ext_getElem?
   intro j
   have hj:=congrArg (fun l=>l[j]?) ho.2
   simp only [List.getElem?_map,Array.getElem?_toList] at hj ⊢
   rw [Array.getElem?_modify,List.getElem?_set]
   by_cases e:q.1=j
   ·subst e
    simp only [if_true]
    rw [h1] at hj
    have hlt:q.1<es.length:=(List.getElem?_eq_some_iff.1 h1).1
    cases hme:mes[q.1]? with
    |none=>rw [hme] at hj;cases hj
    |some e=>simp [hlt]
   ·simp only [if_neg e]
    exact hj
theorem zlk {td:TD} {k x:D} (hk:alike td k=true) (hx:alike td x=true) (h:sameS k x=true):valD x=valD k:=by
 cases td<;>cases k<;>cases x<;>simp_all [alike,sameS,valD]
theorem zgZ {td:TD} {k:D} (hk:alike td k=true):Instr.sameBits 10000 (valD k) (valD k)=true:=by
 cases td<;>cases k<;>first|(cases hk;done)|skip
 all_goals simp [Instr.sameBits,valD,zgT]
theorem zfs {b:Nat} {mes:Array MapEntry} {c:Nat} {w:World} (hb:w.heap[b]?=some (.map mes c)):(getObj b).run P w= .ok (.map mes c) w:=by simp [getObj,Sem.run,hb]
theorem zdv {b:Nat} {mes:Array MapEntry} {c:Nat} {w:World} (hb:w.heap[b]?=some (.map mes c)) (o:Obj):(setObj b o).run P w= .ok () (World.row w b o):=by
 simp [setObj,Sem.run,hb,World.row]
theorem ze6 {t kt et:TypeId} (ht:(ty P t).td= .map kt et) {b:Nat} {es:List (D×D)} {mes:Array MapEntry} {c:Nat} {w:World} (hb:w.heap[b]?=some (.map mes c)) (ho:esOk es mes) {k v:D} (hk:alike (ty P kt).td k=true) (ha:(es.all fun p=>alike (ty P kt).td p.1)=true):
  ∃c',(Instr.mapUpdate t (.map (some b)) (valD k) (valD v)).run P w= .ok () (World.row w b (.map (match mix k es with|some q=>mes.modify q.1 (fun e=> { e with key:=valD k,val:=valD v })|none=>mes.push { key:=valD k,val:=valD v,born:=c }) c')):=by
 unfold Instr.mapUpdate
 simp only [Sem.run_bind,run_underlying (zfS ht),Result.andThen_ok,zfs hb,za2 hk,zdN hk ho ha]
 cases hm:mix k es with
 |none=>
  refine ⟨c+1,?_⟩
  simp only [Option.map_none,zdv hb]
 | some q=>
  obtain ⟨p,h1,h2,h3⟩:=zjc k es q hm
  refine ⟨c,?_⟩
  have hj:=congrArg (fun l=>l[q.1]?) ho.2
  simp only [List.getElem?_map,Array.getElem?_toList,h1,Option.map_some] at hj
  cases hme:mes[q.1]? with
  |none=>rw [hme] at hj;cases hj
  |some e=>
   rw [hme] at hj
   simp only [Option.map_some,Option.some.injEq,Prod.mk.injEq] at hj
   have hp:=List.all_eq_true.1 ha p (List.mem_of_getElem? h1)
   have hkey:e.key=valD k:=by rw [hj.1];exact zlk hk hp h2
   have hg:((mes[q.1]?).map (·.key)).getD (valD k)=valD k:=by rw [hme];simp [hkey]
   simp only [Option.map_some,hg,Instr.keyThatStays,zgZ hk,if_true]
   rw [Sem.run_bind,Sem.run_pure,Result.andThen_ok,zdv hb]
end
end Go.Aw
