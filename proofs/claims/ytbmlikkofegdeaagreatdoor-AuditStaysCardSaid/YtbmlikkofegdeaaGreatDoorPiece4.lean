/-
  Parts of the proof: AwOpOk3, AwChange, AwEff (short names; the readable texts lie in the repo, under wip).
-/
import Derived.Test.YtbmlikkofegdeaaGreatDoorPiece3
set_option maxRecDepth 100000
set_option maxHeartbeats 2000000
set_option linter.unusedSimpArgs false
set_option linter.unusedVariables false
namespace Go.Aw
open Go
section
variable {P : Program} {W : World} {E : Env} {s : AS} {a : Act}
theorem zeN {t:TypeId} {x:Value} {lo hi mx:Option Value} {d:TypeDesc} (h:P.underlying t=some d) (hd:∀n e,d≠ .array n e):(Instr.sliceAt t x lo hi mx).run P W=(Instr.slice t x lo hi mx).run P W:=by unfold Instr.sliceAt;simp only [Sem.run_bind,run_underlying h,Result.andThen_ok]
theorem Reps.ones {h:AHeap} {X:Nat->Prop} (hX:∀ (x:D) v,RepD W (Xs E h) x v->RepD W X x v):∀ (cs:List AV) {vs:List Value},Reps W E h cs vs->cs.all AV.isD=true->∀us,RepRows W X 1 (cs.map AV.oneD) (vs++us)
 | [],_,_,_,_=>by simp only [List.map_nil,RepRows]
 | a::cs,vs,hr,hd,us=>by
  simp only [Reps] at hr;obtain ⟨v,r,rfl,h1,h2⟩:=hr;simp only [List.all_cons,Bool.and_eq_true] at hd;cases a with
  |d x=>
   simp only [Rep] at h1;simp only [List.map_cons,AV.oneD,RepRows,List.cons_append,List.length_singleton,List.take_succ_cons,List.take_zero,List.drop_succ_cons,List.drop_zero,RepDs,true_and];exact ⟨⟨v,[],rfl,hX x v h1,rfl⟩,Reps.ones hX cs h2 hd.2 us⟩
  |_=>simp [AV.isD] at hd
theorem zp6 (hp:SatH E s.h W) (hs:Slots W E s a) {t:TypeId} {x:AV} {v:Value} {lo hi mx:Option Operand} (hv:(zdj P s t x lo hi mx).1) (hx:Rep W E s.h x v):
  ∃u,(Instr.sliceAt t v (lo.map a.eval) (hi.map a.eval) (mx.map a.eval)).run P W= .ok u W∧Rep W E s.h (zdj P s t x lo hi mx).2 u:=by
 unfold zdj at hv ⊢
 dsimp only at hv ⊢
 split at hv
 ·-- a text
  rename_i b
  obtain ⟨rfl,ht,h1,h2,h4,h5,h6⟩:=hv
  simp only [Rep,RepD] at hx ⊢
  subst hx
  have hlen:(⟨b.toArray⟩:ByteArray).size=b.length:=by simp [ByteArray.size]
  have hb:=zaW (P:=P) (W:=W) hs (isS:=false) (len:=b.length) (cap:=b.length) (lo:=lo) (hi:=hi) (mx:=none) (dm:=0) (by simp) (fun _=>trivial) h1 h2 (by simp [AS.bnd]) h4 h5 (by simp) (fun _=>h6)
  rw [zeN (zcy ht) (by simp)]
  simp only [Instr.slice,Sem.run_bind,run_underlying (zcy ht),Result.andThen_ok,Option.map_none,Option.isSome_none,Bool.false_eq_true,if_false,hlen]
  simp only [Option.map_none] at hb
  simp only [hb,Result.andThen_ok,Sem.run_pure]
  exact ⟨_,rfl,by rw [zns]⟩
 ·-- data
  rename_i k xs
  obtain ⟨hm,⟨e,ht,hk,he⟩,h1,h2,h3,h4,h5,h6,h7⟩:=hv
  have hu:=zO ht
  obtain ⟨de,hde⟩:=zb9 he
  rw [zeN hu (by simp)]
  simp only [Rep,RepD] at hx ⊢
  rcases hx with ⟨rfl,p,cap,rfl⟩|⟨p,cap,c,T,fz,rfl,hsp,hcap,hX,hb,hr⟩
  ·have hb:=zaW (P:=P) (W:=W) hs (isS:=true) (len:=0) (cap:=cap) (lo:=lo) (hi:=hi) (mx:=mx) (dm:=(([]:List (List D)).length:Int)) hm (fun _=>trivial) h1 h2 h3 h4 h5 (fun _=>⟨h6,by simp only [List.length_nil] at h7 ⊢;omega⟩) (fun _=>by simp only [List.length_nil] at h7 h6 ⊢;omega)
   simp only [Instr.slice,Sem.run_bind,run_underlying hu,Result.andThen_ok,hb,zI hde,Sem.run_pure]
   refine ⟨_,rfl,.inl ⟨by simp,?_⟩⟩
   have e1:(s.bnd hi ((0:Nat):Int)).2≤0:=by
    have:=h6;have:=h7;simp only [List.length_nil] at*;omega
   have e2:(s.bnd hi ((0:Nat):Int)).2.toNat - (s.bnd lo 0).2.toNat=0:=by omega
   rw [e2]
   exact ⟨_,_,rfl⟩
  ·have hb':=zaW (P:=P) (W:=W) hs (isS:=true) (len:=xs.length) (cap:=cap) (lo:=lo) (hi:=hi) (mx:=mx) (dm:=(xs.length:Int)) hm (fun _=>trivial) h1 h2 h3 h4 h5 (fun _=>⟨h6,by omega⟩) (fun _=>by omega)
   simp only [Instr.slice,Sem.run_bind,run_underlying hu,Result.andThen_ok,hb',zI hde,Sem.run_pure]
   refine ⟨_,rfl,?_⟩
   generalize (s.bnd lo 0).2=l at*
   generalize (s.bnd hi xs.length).2=hh at*
   generalize (s.bnd mx xs.length).2=m at*
   have hlen:((xs.take hh.toNat).drop l.toNat).length=hh.toNat - l.toNat:=by simp;omega
   rcases Nat.eq_zero_or_pos (hh.toNat - l.toNat) with h0|h0
   ·exact .inl ⟨List.eq_nil_of_length_eq_zero (by omega),by rw [h0];exact ⟨_,_,rfl⟩⟩
   ·obtain ⟨pb,po,psp⟩:=p
    simp only at hsp hX hb hr
    subst hsp
    right
    have hne:¬(if mx=none then cap else m.toNat)=l.toNat:=by split<;>omega
    refine ⟨⟨pb,po+l.toNat*k,none⟩,(if mx=none then cap else m.toNat) - l.toNat,c,T,fz,?_,rfl,?_,hX,hb,?_⟩
    ·rw [if_neg hne,hlen,hk];simp [Addr.add_none]
    ·rw [hlen];split<;>omega
    ·have:=RepRows.drop (RepRows.take hr hh.toNat) l.toNat
     rw [List.drop_drop] at this
     exact this
 ·-- an array of one's own
  rename_i i k n off len
  obtain ⟨rfl,hc,⟨e,ht,hk,he⟩,h1,h2,h4,h5,h6⟩:=hv
  have hu:=zO ht
  obtain ⟨de,hde⟩:=zb9 he
  rw [zeN hu (by simp)]
  simp only [Rep] at hx ⊢
  obtain ⟨-,xs,g1,g2,g3,g4⟩:=hx
  have hn:xs.length=n:=by simpa [AS.cur,g1] using hc
  have hob:=hp.heap i _ g1
  simp only [RepObj] at hob
  rcases g4 hn with ⟨⟨g5,g50⟩,rfl⟩|⟨b,hO,rfl⟩|⟨g5,rfl,p,cap,rfl⟩
  ·have hxs:xs= []:=List.length_eq_zero_iff.1 (by omega)
   subst hxs
   simp only [List.length_nil] at hn g2
   have hl0:len=0:=by omega
   subst hl0
   have hb:=zaW (P:=P) (W:=W) hs (isS:=true) (len:=0) (cap:=0) (lo:=lo) (hi:=hi) (mx:=none) (dm:=0) (by simp) (fun _=>trivial) h1 h2 (by simp [AS.bnd]) h4 h5 (by simp) (fun _=>h6)
   simp only [Option.map_none] at hb
   simp only [Instr.slice,Sem.run_bind,run_underlying hu,Result.andThen_ok,Option.map_none,hb,zI hde,Sem.run_pure,if_true]
   generalize (s.bnd lo 0).2=l at*
   generalize (s.bnd hi ((0:Nat):Int)).2=hh at*
   have e1:l.toNat=0:=by omega
   have e2:hh.toNat=0:=by omega
   refine ⟨_,rfl,⟨_,_,_,rfl⟩,[],g1,by simp only [List.length_nil];omega,by omega,fun _=> .inl ⟨⟨g5,g50⟩,?_⟩⟩
   rw [e1,e2]
   rfl
  ·rcases hob with ⟨h0,_⟩|⟨b',c,T,fz,hO',hb,hsz,hcap,hrows,_⟩
   ·rw [h0] at hO;cases hO
   rw [hO] at hO';cases hO'
   have hb':=zaW (P:=P) (W:=W) hs (isS:=true) (len:=len) (cap:=E.C i - off) (lo:=lo) (hi:=hi) (mx:=none) (dm:=0) (by simp) (fun _=>trivial) h1 h2 (by simp [AS.bnd]) h4 h5 (by simp) (fun _=>by omega)
   simp only [Option.map_none] at hb'
   simp only [Instr.slice,Sem.run_bind,run_underlying hu,Result.andThen_ok,Option.map_none,hb',zI hde,Sem.run_pure,if_true]
   generalize (s.bnd lo 0).2=l at*
   generalize (s.bnd hi len).2=hh at*
   refine ⟨_,rfl,⟨_,_,_,rfl⟩,xs,g1,g2,by omega,fun _=> .inr ?_⟩
   by_cases hcl:E.C i - off=l.toNat
   ·rw [if_pos hcl]
    by_cases h0:off+l.toNat=0
    ·left
     refine ⟨b,hO,?_⟩
     have e1:off=0:=by omega
     have e2:l.toNat=0:=by omega
     simp [e1,e2]
    ·right
     refine ⟨h0,by omega,?_⟩
     have:hh.toNat - l.toNat=0:=by omega
     rw [this];exact ⟨_,_,rfl⟩
   ·left
    rw [if_neg hcl]
    refine ⟨b,hO,?_⟩
    simp only [Option.map_some,Addr.add_none,hk]
    rw [← Nat.add_mul,Nat.sub_sub]
  ·have hb:=zaW (P:=P) (W:=W) hs (isS:=true) (len:=0) (cap:=cap) (lo:=lo) (hi:=hi) (mx:=none) (dm:=0) (by simp) (fun _=>trivial) h1 h2 (by simp [AS.bnd]) h4 h5 (by simp) (fun _=>by omega)
   simp only [Option.map_none] at hb
   simp only [Instr.slice,Sem.run_bind,run_underlying hu,Result.andThen_ok,Option.map_none,hb,zI hde,Sem.run_pure,if_true]
   generalize (s.bnd lo 0).2=l at*
   generalize (s.bnd hi ((0:Nat):Int)).2=hh at*
   refine ⟨_,rfl,⟨_,_,_,rfl⟩,xs,g1,g2,by omega,fun _=> .inr (.inr ⟨by omega,by omega,?_⟩)⟩
   have:hh.toNat - l.toNat=0:=by omega
   rw [this];exact ⟨_,_,rfl⟩
 ·-- a whole array variable
  rename_i i off
  split at hv
  ·rename_i n e ht
   obtain ⟨rfl,rfl,rfl,he,hc⟩:=hv
   obtain ⟨de,hde⟩:=zb9 he
   simp only [Rep] at hx ⊢
   obtain ⟨b,cs,g1,g2,rfl⟩:=hx
   simp only [g1] at hc
   simp only [Instr.sliceAt,Sem.run_bind,run_underlying (zdM ht),Result.andThen_ok,Instr.sureAddr,Sem.run_pure,Option.map_none,Instr.sliceBounds,zI hde]
   refine ⟨_,rfl,b,cs,g1,g2,hc,?_⟩
   simp [Addr.add_none]
  ·exact hv.elim
 ·-- an array told aZ data
  rename_i cs
  split at hv
  ·rename_i n e ht
   obtain ⟨rfl,rfl,he,h2,h4,h5,h6,h7⟩:=hv
   obtain ⟨de,hde⟩:=zb9 he
   simp only [Rep] at hx ⊢
   obtain ⟨p,c,T,fz,rfl,hsp,hX,hb,hr⟩:=hx
   have hb':=zaW (P:=P) (W:=W) hs (isS:=false) (len:=n) (cap:=n) (lo:=none) (hi:=hi) (mx:=none) (dm:=0) (by simp) (fun _=>trivial) (by simp [AS.bnd]) h2 (by simp [AS.bnd]) (by simp [AS.bnd]) (by simpa [AS.bnd] using h4) (by simp) (fun _=>h5)
   simp only [Option.map_none] at hb'
   simp only [Instr.sliceAt,Sem.run_bind,run_underlying (zdM ht),Result.andThen_ok,Instr.sureAddr,Sem.run_pure,Option.map_none,hb',zI hde]
   refine ⟨_,rfl,?_⟩
   simp only [Rep,RepD]
   generalize (s.bnd hi n).2=m at*
   have hb0:(s.bnd none 0).2=0:=by simp [AS.bnd]
   obtain ⟨pb,po,psp⟩:=p
   simp only at hsp hX hb hr
   subst hsp
   have hlen:((cs.map AV.oneD).take m.toNat).length=m.toNat:=by simp;omega
   refine .inr ⟨⟨pb,po,none⟩,n,c,T,fz,?_,rfl,by rw [hlen];omega,hX,hb,?_⟩
   ·rw [hlen,hb0]
    simp [Addr.add_none]
   ·refine RepRows.take ?_ _
    have:=Reps.ones (W:=W) (E:=E) (h:=s.h) (X:=Xs E s.h) (fun _ _ h=>h) cs hr h7 ((c.toList.drop po).drop cs.length)
    rwa [List.take_append_drop] at this
  ·exact hv.elim
 ·exact hv.elim
theorem zrD (hs:Slots W E s a):∀ (l:List Operand),(l.all λx=>(s.ev x).1)=true->Reps W E s.h (l.map λx=>(s.ev x).2) (l.map a.eval)
 | [],_=>by simp [Reps]
 |x::l,h=>by simp only [List.all_cons,Bool.and_eq_true] at h;simp only [List.map_cons,Reps];exact ⟨_,_,rfl,ev_ok hs x h.1,zrD hs l h.2⟩
theorem zrE {α β:Type} {f:α->β} {p q:β} {l:Array α} (h:l.toList.map f= [p,q]):∃x y,l= #[x,y]/\f x=p/\f y=q:=by
 obtain ⟨l⟩:=l;cases l with
 |nil=>simp at h
 | cons x l=>
  cases l with
  |nil=>simp at h
  |cons y l=>
   cases l with
   |nil=>simp at h;exact ⟨x,y,rfl,h.1,h.2⟩
   |cons z l=>simp at h
theorem zrF {α β:Type} {f:α->β} {p q r:β} {l:Array α} (h:l.toList.map f= [p,q,r]):∃x y z,l= #[x,y,z]/\f x=p/\f y=q/\f z=r:=by
 obtain ⟨l⟩:=l;cases l with
 |nil=>simp at h
 | cons x l=>
  cases l with
  |nil=>simp at h
  | cons y l=>
   cases l with
   |nil=>simp at h
   |cons z l=>
    cases l with
    |nil=>simp at h;exact ⟨x,y,z,rfl,h.1,h.2.1,h.2.2⟩
    |cons u l=>simp at h
theorem zrG (hp:SatH E s.h W) (hs:Slots W E s a) {c:Call} {o:TypeId} (hv:(zfi P s c).1):
  ∃v,(do let d <-resolve a.eval c o;invoke d.target d.args).run P W= .ok (.value v) W/\Rep W E s.h (zfi P s c).2 v:=by
 obtain ⟨callee,args,argTypes⟩:=c;unfold zfi at hv ⊢;dsimp only at hv ⊢;split at hv
 ·split at hv
  ·rename_i x t hx ht;have hax:args= #[x]:=by rw [<-Array.toList_inj];exact hx
   have hat:argTypes= #[t]:=by rw [<-Array.toList_inj];exact ht
   subst hax hat;obtain ⟨v,h1,h2⟩:=zug (P:=P) hp hv.2 (ev_ok hs x hv.1) #[t] rfl o #[a.eval x] rfl;refine ⟨v,?_,h2⟩;simp [resolve,invoke,builtin,h1]
  ·exact hv.elim
 ·split at hv
  ·rename_i gx k m gy k' n he;obtain ⟨x,y,rfl,e1,e2⟩:=zrE he;have hx:=ev_ok hs x (by rw [e1];exact hv.1);have hy:=ev_ok hs y (by rw [e2];exact hv.2);rw [e1] at hx;rw [e2] at hy;simp only [Rep,RepD] at hx hy;simp [resolve,invoke,builtin,Builtin.min_,hx,hy,Builtin.min2,Rep,RepD,imin]
  ·rename_i gx k m gy k' n gz k'' q he;obtain ⟨x,y,z,rfl,e1,e2,e3⟩:=zrF he;have hx:=ev_ok hs x (by rw [e1];exact hv.1);have hy:=ev_ok hs y (by rw [e2];exact hv.2.1);have hz:=ev_ok hs z (by rw [e3];exact hv.2.2);rw [e1] at hx;rw [e2] at hy;rw [e3] at hz;simp only [Rep,RepD] at hx hy hz;simp [resolve,invoke,builtin,Builtin.min_,hx,hy,hz,Builtin.min2,Rep,RepD,imin];try rfl
  ·exact hv.elim
 ·split at hv
  ·rename_i gx k m gy k' n he;obtain ⟨x,y,rfl,e1,e2⟩:=zrE he;have hx:=ev_ok hs x (by rw [e1];exact hv.1);have hy:=ev_ok hs y (by rw [e2];exact hv.2);rw [e1] at hx;rw [e2] at hy;simp only [Rep,RepD] at hx hy;simp [resolve,invoke,builtin,Builtin.max_,hx,hy,Builtin.max2,Rep,RepD,imax]
  ·exact hv.elim
 ·exact hv.elim
theorem znt (hp:SatH E s.h W) (hs:Slots W E s a) (o:Oper) (hv:(aval P s o.op).1):
  ∃v,(execOp a.eval o).run P W= .ok (.value v) W/\Rep W E s.h (aval P s o.op).2 v:=by
 obtain ⟨dst,op,ot,pos,after,guard⟩:=o;dsimp only at hv ⊢;unfold aval at hv ⊢;split at hv<;>(try dsimp only at hv ⊢)
 ·rename_i op t x y _;obtain ⟨v,h1,h2⟩:=zuh hv.2.2 (ev_ok hs x hv.1) (ev_ok hs y hv.2.1) x y;exact ⟨v,by unfold execOp;dsimp only;rw [Sem.run_bind,h1];simp,h2⟩
 ·rename_i op _ x;obtain ⟨v,h1,h2⟩:=zx3 (P:=P) hv.2 (ev_ok hs x hv.1) W;exact ⟨v,by simp [execOp,h1],h2⟩
 ·rename_i src dst x;obtain ⟨v,h1,h2⟩:=zlY (P:=P) hv.2 (ev_ok hs x hv.1);exact ⟨v,by simp [execOp,h1],h2⟩
 ·rename_i t x;obtain ⟨hg,h1,h2⟩:=hv;obtain ⟨d,hd⟩:=zb9 h1;have hx:=ev_ok hs x hg;refine ⟨.iface t (a.eval x),?_,by simp only [Rep];exact ⟨_,rfl,hx⟩⟩;simp only [execOp,Instr.makeInterface,Sem.run_bind,run_underlying hd,Result.andThen_ok];rw [td_of hd] at h2;cases d<;>first|(exact absurd rfl h2)|simp
 ·rename_i f fs cs;refine ⟨.func f (fs.map a.eval) (cs.map a.eval),by simp [execOp,Instr.makeFunc],?_⟩;simp only [Rep];simp only [Array.toList_append,List.all_append,Bool.and_eq_true] at hv;exact ⟨_,_,rfl,by simpa using zrD hs fs.toList hv.1,by simpa using zrD hs cs.toList hv.2⟩
 ·rename_i t x f;obtain ⟨v,h1,h2⟩:=zp4 (P:=P) (s:=s) hv.2 (ev_ok hs x hv.1);exact ⟨v,by simp [execOp,h1],h2⟩
 ·rename_i t x f;obtain ⟨v,h1,h2⟩:=zjC (P:=P) (s:=s) hv.2 (ev_ok hs x hv.1);exact ⟨v,by simp [execOp,h1],h2⟩
 ·rename_i t x y;obtain ⟨v,h1,h2⟩:=zjE (P:=P) hp hv.2.2 (ev_ok hs x hv.1) (ev_ok hs y hv.2.1);exact ⟨v,by simp [execOp,h1],h2⟩
 ·rename_i t x y;obtain ⟨v,h1,h2⟩:=zp5 (P:=P) (s:=s) hv.2.2 (ev_ok hs x hv.1) (ev_ok hs y hv.2.1);exact ⟨v,by simp [execOp,h1],h2⟩
 ·rename_i t x lo hi mx;obtain ⟨v,h1,h2⟩:=zp6 (P:=P) hp hs hv.2 (ev_ok hs x hv.1);exact ⟨v,by simp [execOp,h1],h2⟩
 ·rename_i t x;obtain ⟨v,h1,h2⟩:=zlX (P:=P) hp hv.2 (ev_ok hs x hv.1);exact ⟨v,by simp [execOp,h1],h2⟩
 ·rename_i x;obtain ⟨hg,hm⟩:=hv;have hx:=ev_ok hs x hg;refine ⟨a.eval x,?_,hx⟩;simp only [execOp];generalize a.eval x=y at hx;split at hm<;>rename_i he
  ·rw [he] at hx;simp only [Rep] at hx;obtain ⟨b,cs,_,_,rfl⟩:=hx;simp
  ·rw [he] at hx;simp only [Rep] at hx;obtain ⟨b,t',cs,_,_,rfl⟩:=hx;simp
  ·rw [he] at hx;simp only [Rep] at hx;obtain ⟨a,c,T,fz,rfl,_⟩:=hx;simp
  ·rw [he] at hx;simp only [Rep] at hx;obtain ⟨-,xs,h1,h2,h3⟩:=hx;obtain ⟨b,_,rfl⟩:=h3 (by simpa [AS.cur,h1] using hm);simp
  ·rw [he] at hx;simp only [Rep] at hx;obtain ⟨p,q,rfl,_⟩:=hx;simp
  ·exact hm.elim
 ·rename_i x i;split at hv
  ·rename_i g vs he;dsimp only at hv;have hx:=ev_ok hs x (by rw [he];exact hv.1);rw [he] at hx;simp only [Rep] at hx;obtain ⟨us,hu,hr⟩:=hx;obtain ⟨v,hv1,hv2⟩:=Reps.get hr (getD_some (d:= .any) hv.2);have:us[i]?=some v:=by simpa using hv1
   exact ⟨v,by simp [execOp,hu,Instr.extract,this],hv2⟩
  ·exact hv.elim
 ·rename_i t x y ok;obtain ⟨v,h1,h2⟩:=znr (P:=P) hp hv.2.2 (ev_ok hs x hv.1) (ev_ok hs y hv.2.1);exact ⟨v,by simp [execOp,h1],h2⟩
 ·rename_i c;obtain ⟨v,h1,h2⟩:=zrG (P:=P) hp hs (o:=ot) hv;exact ⟨v,by simpa [execOp] using h1,h2⟩
end
open Go
theorem zh:∀ {h:AHeap} {i:Nat} {o o':AObj},hget h i=some o->hget (hset h i o') i=some o'
  | [],i,o,o',h=>by simp [hget] at h
  | (j,oj)::r,i,o,o',h=>by
    simp only [hget,hset] at h ⊢;by_cases e:j=i
    · simp [e,hget]
    · simp only [e,if_false] at h ⊢
      simp [hget,e,zh h]
theorem zH:∀ {h:AHeap} {i j:Nat} {o':AObj},j≠i->hget (hset h i o') j=hget h j
  | [],i,j,o',_=>by simp [hset]
  | (k,ok)::r,i,j,o',hne=>by
    simp only [hset];by_cases e:k=i
    · simp only [e,if_true,hget]
      by_cases e2:i=j
      · exact absurd e2.symm hne
      · simp [e2]
    · simp only [e,if_false,hget,zH hne]
theorem zrH {fl:Nat} :∀ {h:AHeap} {i:Nat},(hget h i).isSome->i<top fl h
  | [],i,hi=>by simp [hget] at hi
  | (k,o)::r,i,hi=>by
    simp only [hget] at hi;simp only [top];by_cases e:k=i
    · subst e;split<;>omega
    · rw [if_neg e] at hi
      have:=zrH (fl:=fl) hi;split<;>omega
theorem zgx (fl:Nat):∀ (h:AHeap),fl<=top fl h
  | []=>Nat.le_refl _
  | (k,o)::r=>by have:=zgx fl r;simp only [top];split<;>omega
theorem zbb (fl:Nat) (h:AHeap):fl<=fresh fl h:=by
 unfold fresh;split
 ·exact zgx fl h
 ·exact Nat.le_refl _
theorem zui (fl:Nat) (h:AHeap):hget h (top fl h)=none:=by
 cases e:hget h (top fl h) with
 |none=>rfl
 |some o=>exact absurd (zrH (fl:=fl) (h:=h) (i:=top fl h) (by rw [e];rfl)) (Nat.lt_irrefl _)
theorem zcO (fl:Nat) (h:AHeap):hget h (fresh fl h)=none:=by
 unfold fresh;split
 ·exact zui fl h
 ·rename_i e;simpa using e
theorem zhY {fl:Nat} {h:AHeap} (e:hget h fl=none):fresh fl h=fl:=by unfold fresh;rw [e];rfl
def Env.set (E:Env) (i:Nat) (b:Option Nat) (c:Nat):Env:= { E with O:=λj=>if j=i then b else E.O j,C:=λj=>if j=i then c else E.C j }
section
variable {E E' : Env} {h h' : AHeap} {w w' : World} {i : Nat}
structure Chg (E:Env) (h:AHeap) (w:World) (E':Env) (h':AHeap) (w':World) (i:Nat):Prop where
 os:w'.os=w.os
 tape:w'.tape=w.tape
 output:w'.output=w.output
 size:w.heap.size<=w'.heap.size
 envO:∀j,j≠i->E'.O j=E.O j
 envC:∀j,j≠i->E'.C j=E.C j
 M:E'.M=E.M
 N:E'.N=E.N
 hh:∀j,j≠i->hget h' j=hget h j
 gi:GoesOn E h E' h' i
 blk:∀b,b<w.heap.size->¬((hget h i).isSome/\E.O i=some b)->w'.heap[b]?=w.heap[b]?
 new:∀b,(hget h' i).isSome->E'.O i=some b->((hget h i).isSome/\E.O i=some b)\/(w.heap.size<=b/\b<w'.heap.size)
theorem Chg.goesOn (c:Chg E h w E' h' w' i) (j:Nat):GoesOn E h E' h' j:=by
 by_cases e:j=i
 ·subst e;exact c.gi
 ·unfold GoesOn;rw [c.hh j e];cases hj:hget h j with
  |none=>trivial
  |some o=>cases o<;>simp [c.envO j e,c.envC j e]
theorem Chg.own (c:Chg E h w E' h' w' i) {b:Nat} (ho:Own E' h' b):Own E h b\/w.heap.size<=b:=by
 obtain ⟨j,hj,hb⟩:=ho;by_cases e:j=i
 ·subst e;rcases c.new b hj hb with ⟨h1,h2⟩|⟨h1,_⟩
  ·exact .inl ⟨j,h1,h2⟩
  ·exact .inr h1
 ·exact .inl ⟨j,by rwa [<-c.hh j e],by rwa [<-c.envO j e]⟩
theorem Chg.hX (c:Chg E h w E' h' w' i):∀b,b<w.heap.size->Xs E' h' b->Xs E h b:=λb hb hx=>by
 rcases hx with hx|hx|hx
 ·rcases c.own hx with h1|h1
  ·exact .inl h1
  ·omega
 ·exact .inr (.inl (by rwa [<-c.M]))
 ·exact .inr (.inr (by rwa [<-c.N]))
theorem Chg.hK (c:Chg E h w E' h' w' i):∀b,b<w.heap.size->¬Xs E h b->w'.heap[b]?=w.heap[b]?:=λb hb hx=>
 c.blk b hb (λ⟨h1,h2⟩=>hx (.inl ⟨i,h1,h2⟩))
theorem Chg.rep (c:Chg E h w E' h' w' i) {a:AV} {v:Value} (hr:Rep w E h a v):Rep w' E' h' a v:=Rep.step c.hX c.hK a v (λj _=>c.goesOn j) hr
theorem Chg.reps (c:Chg E h w E' h' w' i) {a:List AV} {v:List Value} (hr:Reps w E h a v):Reps w' E' h' a v:=Reps.step c.hX c.hK a v (λj _=>c.goesOn j) hr
theorem Chg.rows (c:Chg E h w E' h' w' i) {k:Nat} {xs:List (List D)} {v:List Value} (hr:RepRows w (Xs E h) k xs v):RepRows w' (Xs E' h') k xs v:=RepRows.step c.hX c.hK k xs v hr
theorem Chg.evo {fl:Nat} (c:Chg E h w E' h' w' i) (hf:(hget h i).isSome\/fl<=i):Evo fl E h w E' h' w' where
 os:=c.os
 tape:=c.tape
 output:=c.output
 size:=c.size
 keep:=λb hb ho _=>c.blk b hb (λ⟨h1,h2⟩=>ho ⟨i,h1,h2⟩)
 own:=λb hb=>c.own hb
 m1:=λb hb=>by rwa [c.M]
 m2:=λb hb=> .inl (by rwa [<-c.M])
 n:=c.N
 go:=λj hj hl=>⟨by
  by_cases e:j=i
  ·subst e;rcases hf with h|h
   ·exact h
   ·omega
  ·rwa [<-c.hh j e],c.goesOn j⟩
theorem Chg.satH (c:Chg E h w E' h' w' i) (hs:SatH E h w) (hob:∀o,hget h' i=some o->RepObj w' E' h' i o):SatH E' h' w' where
 heap:=λj o ho=>by
  by_cases e:j=i
  ·subst e;exact hob o ho
  ·have ho':=ho;rw [c.hh j e] at ho';have:=hs.heap j o ho';have hne:∀b,E.O j=some b->¬((hget h i).isSome/\E.O i=some b):=λb hb ⟨h1,h2⟩=>e (hs.inj j i b (by simp [ho']) h1 hb h2);have hlt:∀b,E.O j=some b->b<w.heap.size:=λb hb=>(hs.own b ⟨j,by simp [ho'],hb⟩).1;cases o with
   |var cs=>
    simp only [RepObj] at this ⊢;obtain ⟨b,d,T,fz,h1,h2,h3,h4⟩:=this;exact ⟨b,d,T,fz,by rw [c.envO j e];exact h1,(c.blk b (hlt b h1) (hne b h1)).trans h2,c.reps h3,h4⟩
   |tvar tt cs=>
    simp only [RepObj] at this ⊢;obtain ⟨b,d,T,fz,h1,h2,h3,h4⟩:=this;exact ⟨b,d,T,fz,by rw [c.envO j e];exact h1,(c.blk b (hlt b h1) (hne b h1)).trans h2,c.reps h3,h4⟩
   |arr k xs=>
    simp only [RepObj,c.envO j e,c.envC j e] at this ⊢;rcases this with h0|⟨b,d,T,fz,h1,h2,h3,h4,h5,h6⟩
    ·exact .inl h0
    ·exact .inr ⟨b,d,T,fz,h1,(c.blk b (hlt b h1) (hne b h1)).trans h2,h3,h4,c.rows h5,h6⟩
   |buf tt xs=>
    simp only [RepObj,c.envO j e,c.envC j e] at this ⊢;rcases this with h0|⟨b,d,T,fz,h1,h2,h3,h4,h5,h6⟩
    ·exact .inl h0
    ·exact .inr ⟨b,d,T,fz,h1,(c.blk b (hlt b h1) (hne b h1)).trans h2,h3,h4,h5,h6⟩
   |strit l p=>
    simp only [RepObj,c.envO j e] at this ⊢;obtain ⟨b,h1,h2⟩:=this;exact ⟨b,h1,(c.blk b (hlt b h1) (hne b h1)).trans h2⟩
   |omap es=>
    simp only [RepObj,c.envO j e] at this ⊢;obtain ⟨b,m,cl,h1,h2,h3⟩:=this;exact ⟨b,m,cl,h1,(c.blk b (hlt b h1) (hne b h1)).trans h2,h3⟩
 inj:=λj l b hj hl h1 h2=>by
  have key:∀j b,j≠i->(hget h' j).isSome->E'.O j=some b->(hget h' i).isSome->E'.O i=some b->j=i:=λj b e hj h1 hi h2=>by
   rw [c.hh j e] at hj;rw [c.envO j e] at h1;have hb:=(hs.own b ⟨j,hj,h1⟩).1;rcases c.new b hi h2 with ⟨h3,h4⟩|⟨h3,_⟩
   ·exact hs.inj j i b hj h3 h1 h4
   ·omega
  by_cases e1:j=i
  ·by_cases e2:l=i
   ·rw [e1,e2]
   ·subst e1;exact (key l b e2 hl h2 hj h1).symm
  ·by_cases e2:l=i
   ·subst e2;exact key j b e1 hj h1 hl h2
   ·exact hs.inj j l b (by rwa [<-c.hh j e1]) (by rwa [<-c.hh l e2]) (by rwa [<-c.envO j e1]) (by rwa [<-c.envO l e2])
 own:=λb hb=>by
  rcases hb with ⟨j,hj,hb⟩
  rw [c.M,c.N];by_cases e:j=i
  ·subst e;rcases c.new b hj hb with ⟨h1,h2⟩|⟨h1,h2⟩
   ·have:=hs.own b ⟨j,h1,h2⟩;exact ⟨Nat.lt_of_lt_of_le this.1 c.size,this.2⟩
   ·exact ⟨h2,λhm=>by have:=hs.mlt b hm;omega,λhm=>by have:=hs.nlt b hm;omega⟩
  ·have:=hs.own b ⟨j,by rwa [<-c.hh j e],by rwa [<-c.envO j e]⟩;exact ⟨Nat.lt_of_lt_of_le this.1 c.size,this.2⟩
 mlt:=λb hb=>Nat.lt_of_lt_of_le (hs.mlt b (by rwa [<-c.M])) c.size
 nlt:=λb hb=>Nat.lt_of_lt_of_le (hs.nlt b (by rwa [<-c.N])) c.size
theorem Marks.step {base:Nat} {ds:List Deferred} (hm:Marks base E w ds) (hM:∀b,b<w.heap.size->E'.M b->E.M b)
  (hk:∀r,w.heap[r]?=some (.deferred (some []))->¬E.M r->w'.heap[r]?=w.heap[r]?):Marks base E' w' ds:=by refine ⟨λd hd=>?_,hm.2⟩;obtain ⟨r,h1,h2,h3,h4⟩:=hm.1 d hd;exact ⟨r,h1,(hk r h2 h4).trans h2,h3,λh=>h4 (hM r (Array.getElem?_eq_some_iff.1 h2).1 h)⟩
theorem SatH.not_mark (hs:SatH E h w) {r:Nat} {ds:Option (List Deferred)} (hr:w.heap[r]?=some (.deferred ds)):¬Own E h r:=by
 rintro ⟨j,hj,hb⟩;obtain ⟨o,ho⟩:=Option.isSome_iff_exists.1 hj;have:=hs.heap j o ho;cases o with
 |var cs=>simp only [RepObj] at this;obtain ⟨b,d,T,fz,h1,h2,_⟩:=this;rw [hb] at h1;cases h1;rw [hr] at h2;cases h2
 |tvar tt cs=>simp only [RepObj] at this;obtain ⟨b,d,T,fz,h1,h2,_⟩:=this;rw [hb] at h1;cases h1;rw [hr] at h2;cases h2
 |arr k xs=>
  simp only [RepObj] at this;rcases this with ⟨h0,_⟩|⟨b,d,T,fz,h1,h2,_⟩
  ·rw [hb] at h0;cases h0
  ·rw [hb] at h1;cases h1;rw [hr] at h2;cases h2
 |buf tt xs=>
  simp only [RepObj] at this;rcases this with ⟨h0,_⟩|⟨b,d,T,fz,h1,h2,_⟩
  ·rw [hb] at h0;cases h0
  ·rw [hb] at h1;cases h1;rw [hr] at h2;cases h2
 |strit l p=>simp only [RepObj] at this;obtain ⟨b,h1,h2⟩:=this;rw [hb] at h1;cases h1;rw [hr] at h2;cases h2
 |omap es=>simp only [RepObj] at this;obtain ⟨b,m,c,h1,h2,_⟩:=this;rw [hb] at h1;cases h1;rw [hr] at h2;cases h2
theorem Chg.sat {cx:Cx} {t:List (Nat×(Bool×AV))} {g:Option (List (List AV))} {a:Act} (c:Chg E h w E' h' w' i) (hs:Sat cx E ⟨t,h,g⟩ a w) (hob:∀o,hget h' i=some o->RepObj w' E' h' i o):Sat cx E' ⟨t,h',g⟩ a w' where
 slots:=λk gg v hk=>by obtain ⟨x,h1,h2,h3⟩:=hs.slots k gg v hk;exact ⟨x,h1,λe=>c.rep (h2 e),h3⟩
 nt:=hs.nt
 hp:=c.satH hs.hp hob
 base:=Nat.le_trans hs.base c.size
 marks:=hs.marks.step (λb _ hb=>by rwa [<-c.M]) (λr hr _=>c.blk r (Array.getElem?_eq_some_iff.1 hr).1 (λ⟨h1,h2⟩=>hs.hp.not_mark hr ⟨i,h1,h2⟩))
 ghost:=by rw [c.M,c.N];exact cx.stab _ _ _ _ _ _ _ (λb hb ho=>c.blk b hb (λ⟨h1,h2⟩=>ho (.inl ⟨i,h1,h2⟩))) (λb hb=>hb.elim (λhb=>(c.own hb).imp .inl id) (λhb=> .inl (.inr hb))) (λb hb=>hb.elim (λh=>((c.satH hs.hp hob).own b h).1) (λh=>Nat.lt_of_lt_of_le (hs.marks.lt h) c.size)) c.size c.tape c.os c.output hs.ghost
theorem Sat.put {cx:Cx} {s:AS} {a:Act} {d:Option Nat} {g:Bool} {v:AV} {x:Value} (hs:Sat cx E s a w) (hd:∀k,d=some k->k<cx.nt) (hr:g=true->Rep w E s.h v x) (hu:g=false->x=undef):
  Sat cx E (s.put d g v) (a.put d x) w:=by
 cases d with
 |none=>exact hs
 | some k=>
  refine ⟨?_,by simp [Act.put,hs.nt],hs.hp,hs.base,hs.marks,hs.ghost⟩;intro j gg u hj;simp only [AS.put,lk] at hj;split at hj
  ·rename_i e;subst e;simp only [Option.some.injEq,Prod.mk.injEq] at hj;obtain ⟨rfl,rfl⟩:=hj;have:k<a.tmps.size:=by rw [hs.nt];exact hd k rfl
   exact ⟨x,by simp [Act.put,this],hr,hu⟩
  ·rename_i e;obtain ⟨y,h1,h2⟩:=hs.slots j gg u hj;refine ⟨y,?_,h2⟩;simp only [Act.put];rw [Array.getElem?_setIfInBounds_ne e];exact h1
end
open Go
def AV.leaf:AV->Bool
 | .agg _| .tup _| .any| .raw _=>false
 |_=>true
def AV.cells:AV->List AV
 | .agg cs=>cs
 |v=> [v]
def AV.cellsOk:AV->Bool
 | .agg cs=>cs.all AV.leaf
 |v=>v.leaf
def putL {α:Type} :List α->Nat->List α->List α
 |cs,_,[]=>cs
 |cs,o,v::vs=>putL (cs.set o v) (o+1) vs
theorem zdO {α:Type} :∀ (cs:List α) (o:Nat) (vs:List α),(putL cs o vs).length=cs.length
 |cs,o,[]=>rfl
 |cs,o,v::vs=>by simp [putL,zdO]
def putA:Array Value->Nat->List Value->Array Value
 |c,_,[]=>c
 |c,o,v::vs=>putA (c.setIfInBounds o v) (o+1) vs
theorem zcz:∀ (c:Array Value) (o:Nat) (vs:List Value),(putA c o vs).size=c.size
 |c,o,[]=>rfl
 |c,o,v::vs=>by simp [putA,zcz]
theorem zci:∀ (c:Array Value) (o:Nat) (vs:List Value),(putA c o vs).toList=putL c.toList o vs
 |c,o,[]=>rfl
 |c,o,v::vs=>by simp [putA,putL,zci]
section
variable {P : Program} {W : World} {E : Env} {h : AHeap}
theorem RepD.one {X:Nat->Prop} {x:D} {v:Value} (hr:RepD W X x v):v.oneCell'=true:=by
 cases x<;>simp only [RepD] at hr
 case sl=>
  rcases hr with ⟨_,a,cap,rfl⟩|⟨a,cap,c,T,fz,rfl,_⟩<;>rfl
 all_goals (subst hr;rfl)
theorem Rep.one {a:AV} {v:Value} (hl:a.leaf=true) (hr:Rep W E h a v):v.oneCell'=true:=by
 cases a<;>simp only [Rep] at hr
 case d=>exact RepD.one hr
 case osl=>obtain ⟨⟨_,_,_,rfl⟩,_⟩:=hr;rfl
 case ap=>obtain ⟨⟨_,rfl⟩,_⟩:=hr;rfl
 case agg=>cases hl
 case tup=>cases hl
 case any=>cases hl
 case raw=>cases hl
 case nils=>subst hr;rfl
 case nilfn=>subst hr;rfl
 case nilmap=>subst hr;rfl
 case dp=>obtain ⟨_,_,_,_,rfl,_⟩:=hr;rfl
 case vp=>obtain ⟨_,_,_,_,rfl⟩:=hr;rfl
 case bsl=>obtain ⟨⟨_,_,_,rfl⟩,_⟩:=hr;rfl
 case tp=>obtain ⟨_,_,_,_,_,rfl⟩:=hr;rfl
 case vsl=>obtain ⟨_,_,_,_,_,rfl⟩:=hr;rfl
 case asl=>obtain ⟨_,_,_,_,_,rfl,_⟩:=hr;rfl
 case fn=>obtain ⟨_,_,rfl,_⟩:=hr;rfl
 case map=>obtain ⟨_,_,_,_,rfl⟩:=hr;rfl
 case itr=>obtain ⟨_,_,_,_,_,rfl⟩:=hr;rfl
 case iface=>obtain ⟨_,rfl,_⟩:=hr;rfl
theorem Reps.putL:∀ {cs:List AV} {c:List Value},Reps W E h cs c->∀ (o:Nat) {vs:List AV} {us:List Value},Reps W E h vs us->Reps W E h (putL cs o vs) (putL c o us)
 |cs,c,hr,o,[],us,hu=>by simp only [Reps] at hu;subst hu;exact hr
 |cs,c,hr,o,v::vs,us,hu=>by simp only [Reps] at hu;obtain ⟨u,r,rfl,h1,h2⟩:=hu;exact Reps.putL (hr.set h1) (o+1) h2
def World.row (w:World) (b:Nat) (o:Obj):World:= { w with heap:=w.heap.setIfInBounds b o }
theorem zeO {w:World} {b:Nat} {c:Array Value} {T:TypeId} {fz:Nat×Nat} (hb:w.heap[b]?=some (.cells c T fz)) (o:Nat) (v:Value):w.setCell ⟨b,o,none⟩ v=World.row w b (.cells (c.setIfInBounds o v) T fz):=by
 obtain ⟨hlt,hb'⟩:=Array.getElem?_eq_some_iff.1 hb;unfold World.setCell World.row;congr 1;apply Array.ext_getElem?;intro j;rw [Array.getElem?_modify];by_cases e:b=j
 ·subst e;simp [hb,hlt,hb']
 ·simp only [e,if_false];rw [Array.getElem?_setIfInBounds_ne e]
theorem zel {w:World} {b:Nat} {o:Obj} (h:b<w.heap.size):(World.row w b o).heap[b]?=some o:=by simp [World.row,h]
theorem zdP {w:World} {b k:Nat} {o:Obj} (h:k≠b):(World.row w b o).heap[k]?=w.heap[k]?:=by
 simp [World.row,Array.getElem?_setIfInBounds_ne (Ne.symm h)]
theorem zwz {w:World} {b:Nat} {o o':Obj} :World.row (World.row w b o) b o'=World.row w b o':=by
 simp only [World.row];congr 1;apply Array.ext_getElem?;intro j;by_cases e:b=j
 ·subst e;by_cases hb:b<w.heap.size
  ·simp [hb]
  ·simp [hb]
 ·rw [Array.getElem?_setIfInBounds_ne e,Array.getElem?_setIfInBounds_ne e,Array.getElem?_setIfInBounds_ne e]
@[simp] theorem row_size {w:World} {b:Nat} {o:Obj} :(World.row w b o).heap.size=w.heap.size:=by simp [World.row]
theorem zca {b:Nat} {T:TypeId} {fz:Nat×Nat} (o:Nat):∀ (vs:List Value) (i:Nat) (c:Array Value) (w:World),w.heap[b]?=some (.cells c T fz)->zbf fz c.size->o+i+vs.length<=c.size->(∀v∈vs,v.oneCell'=true)->
  (storeCells ⟨b,o,none⟩ vs i).run P w= .ok () (World.row w b (.cells (putA c (o+i) vs) T fz))
 | [],i,c,w,hb,_,_,_=>by simp only [storeCells,Sem.run_pure,putA];congr 1;unfold World.row;obtain ⟨hlt,hb'⟩:=Array.getElem?_eq_some_iff.1 hb;rw [<-hb'];rw [Array.setIfInBounds_def,dif_pos hlt,Array.set_getElem_self]
 | v::vs,i,c,w,hb,hf,hl,h1=>by
  simp only [List.length_cons] at hl;have hlt:=(Array.getElem?_eq_some_iff.1 hb).1;have hc:w.cell? ⟨b,o+i,none⟩=some c[o+i]:=by rw [zac hb];exact Array.getElem?_eq_getElem (by omega)
  have hfz:w.frozen? ⟨b,o+i,none⟩=false:=by rw [zdN hb];have:=hf (o+i) (by omega);simpa using this
  have ih:=zca o vs (i+1) (c.setIfInBounds (o+i) v) (World.row w b (.cells (c.setIfInBounds (o+i) v) T fz)) (zel hlt) (by simpa using hf) (by simp;omega) (λx hx=>h1 x (by simp [hx]));simp only [storeCells,Sem.run_bind,Addr.add_none];rw [run_store P w _ v .plain (h1 v (by simp))];simp only [hc,hfz,Bool.false_eq_true,if_false,Result.andThen_ok,zeO hb,ih,zwz,putA];rfl
theorem zfj {b o:Nat} {t:TypeId} {c:Array Value} {T:TypeId} {fz:Nat×Nat} {v:Value} {w:World} (ht:(ty P t).td≠ .other) (hb:w.heap[b]?=some (.cells c T fz)) (hf:zbf fz c.size) (hs:v.cells.size=(ty P t).size) (hl:o+(ty P t).size<=c.size) (h1:∀x∈v.cells.toList,x.oneCell'=true):
  (storeVar t ⟨b,o,none⟩ v).run P w= .ok () (World.row w b (.cells (putA c o v.cells.toList) T fz)):=by obtain ⟨d,hd⟩:=zb9 ht;simp only [storeVar,Sem.run_bind,zI hd,Result.andThen_ok,hs,ne_eq,not_true_eq_false,if_false];rw [show ((do (pure PUnit.unit:Sem PUnit);storeCells ⟨b,o,none⟩ v.cells.toList):Sem Unit)=storeCells ⟨b,o,none⟩ v.cells.toList from rfl];have:=zca (P:=P) (fz:=fz) (T:=T) o v.cells.toList 0 c w hb hf (by simp [hs];omega) h1;simpa using this
theorem Rep.cells {a:AV} {v:Value} (hr:Rep W E h a v) (hl:a.cellsOk=true):Reps W E h a.cells v.cells.toList/\∀x∈v.cells.toList,x.oneCell'=true:=by
 have key:∀ {aZ:List AV} {vs:List Value},Reps W E h aZ vs->aZ.all AV.leaf=true->∀x∈vs,x.oneCell'=true:=by
  intro aZ;induction aZ with
  |nil=>intro vs hr _ x hx;simp only [Reps] at hr;subst hr;simp at hx
  |cons a aZ ih=>
   intro vs hr hl x hx;simp only [Reps] at hr;obtain ⟨v,r,rfl,h1,h2⟩:=hr;simp only [List.all_cons,Bool.and_eq_true] at hl;rcases List.mem_cons.1 hx with rfl|hx
   ·exact Rep.one hl.1 h1
   ·exact ih h2 hl.2 x hx
 by_cases hagg:∃cs,a= .agg cs
 ·obtain ⟨cs,rfl⟩:=hagg;simp only [Rep] at hr;obtain ⟨vs,rfl,h1⟩:=hr;exact ⟨h1,key h1 hl⟩
 ·have hlf:a.leaf=true:=by cases a<;>first|(exact absurd ⟨_,rfl⟩ hagg)|exact hl
  have h1:=Rep.one hlf hr;have e1:a.cells= [a]:=by cases a<;>first|(exact absurd ⟨_,rfl⟩ hagg)|rfl
  have e2:v.cells= #[v]:=by cases v<;>first|rfl|(simp [Value.oneCell'] at h1)
  rw [e1,e2];simp only [Reps];exact ⟨⟨v,[],rfl,hr,rfl⟩,by simpa using h1⟩
theorem zg4 {w:World} (fl:Nat) (hs:SatH E h w) (ob:Obj) (o:AObj) (cap:Nat):Chg E h w (E.set (fresh fl h) (some w.heap.size) cap) ((fresh fl h,o)::h) (w.alloc ob) (fresh fl h) where
 os:=rfl
 tape:=rfl
 output:=rfl
 size:=by simp
 envO:=λj e=>by simp [Env.set,e]
 envC:=λj e=>by simp [Env.set,e]
 M:=rfl
 N:=rfl
 hh:=λj e=>by simp [hget,Ne.symm e]
 gi:=by simp [GoesOn,zcO]
 blk:=λb hb _=>by show (w.heap.push ob)[b]?=_;rw [Array.getElem?_push,if_neg (by omega)]
 new:=λb _ hb=>by simp only [Env.set,if_true,Option.some.injEq] at hb;subst hb;exact .inr ⟨Nat.le_refl _,by simp⟩
theorem zdb (w:World) (ob:Obj):(w.alloc ob).heap[w.heap.size]?=some ob:=by show (w.heap.push ob)[w.heap.size]?=_;simp
theorem znu {cx:Cx} {s:AS} {a:Act} {w:World} (hs:Sat cx E s a w) {cs:List AV} {vs:Array Value} (hr:Reps w E s.h cs vs.toList) (T:TypeId):
  Sat cx (E.set (fresh cx.fl s.h) (some w.heap.size) 0) { s with h:=(fresh cx.fl s.h,.var cs)::s.h } a (w.alloc (.cells vs T))/\Evo cx.fl E s.h w (E.set (fresh cx.fl s.h) (some w.heap.size) 0) ((fresh cx.fl s.h,.var cs)::s.h) (w.alloc (.cells vs T))/\
  Rep (w.alloc (.cells vs T)) (E.set (fresh cx.fl s.h) (some w.heap.size) 0) ((fresh cx.fl s.h,.var cs)::s.h) (.vp (fresh cx.fl s.h) 0) (.pointer (some ⟨w.heap.size,0,none⟩)):=by
 have c:=zg4 cx.fl hs.hp (.cells vs T) (.var cs) 0;refine ⟨c.sat hs (λo ho=>?_),c.evo (.inr (zbb _ _)),?_⟩
 ·simp [hget] at ho;subst ho;simp only [RepObj];exact ⟨w.heap.size,vs,T,(0,0),by simp [Env.set],zdb w _,c.reps hr,by simp [zbf]⟩
 ·simp only [Rep];exact ⟨w.heap.size,cs,by simp [hget],by simp [Env.set],rfl⟩
theorem zj2 {cx:Cx} {s:AS} {a:Act} {w:World} (hs:Sat cx E s a w) {cs:List AV} {vs:Array Value} (hr:Reps w E s.h cs vs.toList) (ty:Bool) (T:TypeId):
  Sat cx (E.set (fresh cx.fl s.h) (some w.heap.size) 0) { s with h:=(fresh cx.fl s.h,.vr ty T cs)::s.h } a (w.alloc (.cells vs T))/\Evo cx.fl E s.h w (E.set (fresh cx.fl s.h) (some w.heap.size) 0) ((fresh cx.fl s.h,.vr ty T cs)::s.h) (w.alloc (.cells vs T))/\
  Rep (w.alloc (.cells vs T)) (E.set (fresh cx.fl s.h) (some w.heap.size) 0) ((fresh cx.fl s.h,.vr ty T cs)::s.h) (.pt ty (fresh cx.fl s.h) 0) (.pointer (some ⟨w.heap.size,0,none⟩)):=by
 cases ty with
 |false=>exact znu hs hr T
 | true=>
  have c:=zg4 cx.fl hs.hp (.cells vs T) (.tvar T cs) 0;refine ⟨c.sat hs (λo ho=>?_),c.evo (.inr (zbb _ _)),?_⟩
  ·simp [hget,AObj.vr] at ho;subst ho;simp only [RepObj];exact ⟨w.heap.size,vs,T,(0,0),by simp [Env.set],zdb w _,c.reps hr,by simp [zbf],rfl⟩
  ·simp only [AV.pt,AObj.vr,if_true,Rep];exact ⟨w.heap.size,T,cs,by simp [hget],by simp [Env.set],rfl⟩
theorem znv {w:World} (hs:SatH E h w) {i:Nat} {cs cs':List AV} (hi:hget h i=some (.var cs)) (hl:cs'.length=cs.length) {b:Nat} (hb:E.O i=some b) (ob:Obj):Chg E h w E (hset h i (.var cs')) (World.row w b ob) i where
 os:=rfl
 tape:=rfl
 output:=rfl
 size:=by simp
 envO:=λj e=>rfl
 envC:=λj e=>rfl
 M:=rfl
 N:=rfl
 hh:=λj e=>zH e
 gi:=by unfold GoesOn;rw [hi];exact ⟨rfl,cs',zh hi,hl⟩
 blk:=λk hk hn=>zdP (λe=>hn ⟨by simp [hi],by rw [hb,e]⟩)
 new:=λk _ hk=> .inl ⟨by simp [hi],hk⟩
theorem zkJ {w:World} (hs:SatH E h w) {i:Nat} {t:TypeId} {cs cs':List AV} (hi:hget h i=some (.tvar t cs)) (hl:cs'.length=cs.length) {b:Nat} (hb:E.O i=some b) (ob:Obj):Chg E h w E (hset h i (.tvar t cs')) (World.row w b ob) i where
 os:=rfl
 tape:=rfl
 output:=rfl
 size:=by simp
 envO:=λj e=>rfl
 envC:=λj e=>rfl
 M:=rfl
 N:=rfl
 hh:=λj e=>zH e
 gi:=by unfold GoesOn;rw [hi];exact ⟨rfl,cs',zh hi,hl⟩
 blk:=λk hk hn=>zdP (λe=>hn ⟨by simp [hi],by rw [hb,e]⟩)
 new:=λk _ hk=> .inl ⟨by simp [hi],hk⟩
theorem zuj {cx:Cx} {s:AS} {a:Act} {w:World} (hs:Sat cx E s a w) {i:Nat} {t:TypeId} {cs vs:List AV} (hi:hget s.h i=some (.tvar t cs)) {o:Nat} {us:List Value} (hr:Reps w E s.h vs us)
  {b:Nat} {c:Array Value} {T:TypeId} {fz:Nat×Nat} (hb:E.O i=some b) (hc:w.heap[b]?=some (.cells c T fz)):
  Sat cx E { s with h:=hset s.h i (.tvar t (Aw.putL cs o vs)) } a (World.row w b (.cells (putA c o us) T fz))/\Evo cx.fl E s.h w E (hset s.h i (.tvar t (Aw.putL cs o vs))) (World.row w b (.cells (putA c o us) T fz)):=by have ch:=zkJ hs.hp hi (cs':=Aw.putL cs o vs) (zdO _ _ _) hb (.cells (putA c o us) T fz);refine ⟨ch.sat hs (λob ho=>?_),ch.evo (.inl (by simp [hi]))⟩;rw [zh hi] at ho;cases ho;obtain ⟨b',c',T',fz',h1,h2,h3,h4,h5⟩:=hs.hp.tvar hi;rw [hb] at h1;cases h1;rw [hc] at h2;cases h2;simp only [RepObj];refine ⟨b,putA c o us,T,fz,hb,zel (Array.getElem?_eq_some_iff.1 hc).1,?_,by rw [zcz];exact h4,h5⟩;rw [zci];exact Reps.putL (ch.reps h3) o (ch.reps hr)
theorem zwA {cx:Cx} {s:AS} {a:Act} {w:World} (hs:Sat cx E s a w) {i:Nat} {cs vs:List AV} (hi:hget s.h i=some (.var cs)) {o:Nat} {us:List Value} (hr:Reps w E s.h vs us)
  {b:Nat} {c:Array Value} {T:TypeId} {fz:Nat×Nat} (hb:E.O i=some b) (hc:w.heap[b]?=some (.cells c T fz)):
  Sat cx E { s with h:=hset s.h i (.var (Aw.putL cs o vs)) } a (World.row w b (.cells (putA c o us) T fz))/\Evo cx.fl E s.h w E (hset s.h i (.var (Aw.putL cs o vs))) (World.row w b (.cells (putA c o us) T fz)):=by have ch:=znv hs.hp hi (cs':=Aw.putL cs o vs) (zdO _ _ _) hb (.cells (putA c o us) T fz);refine ⟨ch.sat hs (λob ho=>?_),ch.evo (.inl (by simp [hi]))⟩;rw [zh hi] at ho;cases ho;obtain ⟨b',c',T',fz',h1,h2,h3,h4⟩:=hs.hp.var hi;rw [hb] at h1;cases h1;rw [hc] at h2;cases h2;simp only [RepObj];refine ⟨b,putA c o us,T,fz,hb,zel (Array.getElem?_eq_some_iff.1 hc).1,?_,by rw [zcz];exact h4⟩;rw [zci];exact Reps.putL (ch.reps h3) o (ch.reps hr)
end
end Go.Aw
