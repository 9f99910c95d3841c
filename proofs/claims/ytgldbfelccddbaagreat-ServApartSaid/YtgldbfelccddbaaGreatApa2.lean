/- Lemmas. -/
import Derived.Test.YtgldbfelccddbaaGreatApa1
set_option linter.all false
set_option maxRecDepth 100000
set_option maxHeartbeats 2000000
namespace Go.Aw
open Go
section
variable {P : Program} {W : World} {E : Env} {s : AS}
def ztR {t} {x y} {a i} (J:(ziB P t x y).1) (hx:Rep W E s.h x a) (hy:Rep W E s.h y i):
  ∃v,(Instr.index t a i).run P W= .ok v W/\Rep W E s.h (ziB P t x y).2 v:=by
 unfold ziB at J |-;split at J
 .rename_i k j;simp only [Rep,RepD] at hy;subst hy;split at J
  .rename_i n e cs ht;obtain ⟨he,h0,h1,hl⟩:=J;obtain ⟨de,jB⟩:=zcp he;refine' Fz;obtain ⟨vs,rfl,hr⟩:=hx;simp only [Instr.index,asIntOf,ai,ar,ah,run_underlying (zeR ht),h0,h1,bA,av,zQ jB];exact zdM he hr hl W
  .rename_i l ht;obtain ⟨h0,h1⟩:=J;refine' HX;have ao:j.toNat<l.length:=fT
   have hg:(⟨l.toArray⟩:ByteArray)[j.toNat]?=some (l.getD j.toNat 0):=by
    have gd:j.toNat<(⟨l.toArray⟩:ByteArray).size:=by simpa [ByteArray.size] using ao
    rw [getElem?_pos (⟨l.toArray⟩:ByteArray) j.toNat gd];congr 1;show (l.toArray)[j.toNat]=_
    grind
   simp only [Instr.index,asIntOf,ai,ar,ah,run_underlying (zdr ht),h0,av,hg]
   grind
  .grind
 .grind
def zn4 {src dst} {x} {a} (J:(zfA P src dst x).1) (hx:Rep W E s.h x a):
  ∃v,(convert src dst a).run P W= .ok v W/\Rep W E s.h (zfA P src dst x).2 v:=by
 unfold zfA at J |-;split at J
 .rename_i k n;split at J
  .rename_i k' ht;obtain ⟨d,hd⟩:=zcp J;refine' HX;simp [convert,run_underlying hd,run_underlying (zhL ht),Conv.intToInt]
  .grind
 .refine' HX;simp [convert,run_underlying (zdr J.1),run_underlying (zdr J.2)]
 .grind
def zzd {t} {x} {a} (hp:SatH E s.h W) (hv:(avLen P s t x).1) (hx:Rep W E s.h x a) ts (gW:ts[0]?=some t) o args (ha:args[0]?=some a):
  ∃v,(Builtin.len_ ts o args).run P W= .ok v W/\Rep W E s.h (avLen P s t x).2 v:=by
 unfold avLen at hv |-;split at hv
 .rename_i n e J;simp [Builtin.len_,gW,ha,run_underlying (zeR J),goInt,Rep,RepD]
 .rename_i l J;simp only [Rep,RepD] at hx;subst hx;have:(⟨l.toArray⟩:ByteArray).size=l.length:=mj;simp [Builtin.len_,gW,ha,run_underlying (zdr J),goInt,Rep,RepD,this]
 .rename_i e k xs J;simp only [Rep,RepD] at hx;rcases hx with ⟨rfl,p,cap,rfl⟩|⟨p,cap,c,T,fz,rfl,_⟩<;>simp [Builtin.len_,gW,ha,run_underlying (zY J),goInt,Rep,RepD]
 .rename_i e k xs J;refine' Fz;obtain ⟨p,cap,c,T,fz,rfl,_⟩:=hx;refine' D2
 .rename_i e J;simp only [Rep] at hx;subst hx;refine' D2
 .rename_i e i k n off len J;refine' Fz;obtain ⟨-,xs,h2,h3,h4,h5⟩:=hx;rcases h5 (by simpa [AS.cur,h2] using hv) with ⟨⟨h6,xj⟩,rfl⟩|⟨b,hO,rfl⟩|⟨_,rfl,p,cap,rfl⟩
  .have:len=0:=by omega
   subst this;refine' D2
  .refine' D2
  .refine' D2
 .rename_i e i k off len J;refine' Fz;obtain ⟨b,cs,h2,h3,h4,_,_,rfl⟩:=hx;refine' D2
 .grind
def zze {op} {t} {x y} {a b} (J:(abin2 P op t x y).1) (hx:Rep W E s.h x a) (hy:Rep W E s.h y b) ox oy:
  ∃v,(do eqGuard op t ox oy a b;binOp op t a b).run P W= .ok v W/\Rep W E s.h (abin2 P op t x y).2 v:=by
 unfold abin2 at J |-;split at J
 .rename_i xs ys;have s9:=hx;have vD:=hy;refine' FI;dsimp only at J |-;split at J
  .obtain ⟨hg,he⟩:=J;simp only [ai,Go.run_eqGuard_agg _ _ _ _ _ _ _ hg,ah,Go.run_eql_struct,zsr W 12 10000 t _ _ _ _ fT he s9 vD];exact ⟨_,rfl,iI⟩
  .obtain ⟨hg,he⟩:=J;simp only [ai,Go.run_eqGuard_agg _ _ _ _ _ _ _ hg,ah,Go.run_neq_struct,zsr W 12 10000 t _ _ _ _ fT he s9 vD];exact ⟨_,rfl,iI⟩
  .grind
 .rename_i f fs cs;simp only [Rep] at hx hy;obtain ⟨p,q,rfl,_⟩:=hx;subst hy;split at J
  .rename_i ht;obtain ⟨d,hd,jB⟩:=zeQ ht fZ
   have iS:∀w,(Op.equal t (.func f p q) .nilFunc).run P w= .ok false w:=λw=>by
    show (Op.equalIn (9999+1) t _ _).run P w=_;rw [Op.equalIn];cases d<;>simp only [tdOf] at jB<;>first|grind|grind|skip
    simp only [ai,run_underlying hd,ah,ar]
   rw [aa ht];cases op<;>simp only [nilAV] at J ⊢ <;>first|exact J.elim|skip
   all_goals simp [eqGuard,binOp,iS,Rep,RepD]
  .grind
 .simp only [Rep] at hx hy;subst hx hy;split at J
  .rename_i ht;obtain ⟨d,hd,jB⟩:=zeQ ht fZ
   have iS:∀w,(Op.equal t .nilFunc .nilFunc).run P w= .ok true w:=λw=>by
    show (Op.equalIn (9999+1) t _ _).run P w=_;rw [Op.equalIn];cases d<;>simp only [tdOf] at jB<;>first|grind|grind|skip
    simp only [ai,run_underlying hd,ah,ar]
   rw [aa ht];cases op<;>simp only [nilAV] at J ⊢ <;>first|exact J.elim|skip
   all_goals simp [eqGuard,binOp,iS,Rep,RepD]
  .grind
 .obtain ⟨v,h1,h2⟩:=zB7 J hx hy W;refine ⟨v,?_,h2⟩
  have:∀w,(eqGuard op t ox oy a b).run P w= .ok () w:=λw=>by unfold abin at J;split at J<;>(try exact J.elim)<;>simp only [Rep,RepD] at hx hy<;>subst hx hy<;>cases op<;>simp [eqGuard]
  simp_all
def zvY {a} (J:Slots W E s a) {x} {d} (h:(s.bnd x d).1):(x=none/\(s.bnd x d).2=d)\/(∃y k,x=some y/\a.eval y= .int k (s.bnd x d).2):=by
 unfold AS.bnd at h |-;cases x with
 |none=>grind
 | some y=>
  right;simp only at h |-;split at h
  .rename_i g k n he;have:=ev_ok J y fU;rw [he] at this;simp only [Rep,RepD] at this
   grind
  .grind
def za3 {k} {n:Int} {y:Nat} {code} (h0:0<=n) (h1:n<=y):(Instr.sliceBound (.int k n) y code).run P W= .ok n.toNat W:=by
 simp [Instr.sliceBound,asIntOf,h0,h1]
def za7 {a} (J:Slots W E s a) {isS} {len cap:Nat} {lo hi mx} (hm:mx≠none->hi≠none) {dm} (rI:mx=none->True)
  (h1:(s.bnd lo 0).1) (h2:(s.bnd hi len).1) (h3:(s.bnd mx dm).1) (h4:0<=(s.bnd lo 0).2) (h5:(s.bnd lo 0).2<=(s.bnd hi len).2) (h6:mx≠none->(s.bnd hi len).2<=(s.bnd mx dm).2/\(s.bnd mx dm).2<=cap) (h7:mx=none->(s.bnd hi len).2<=cap):
  (Instr.sliceBounds isS len cap (lo.map a.eval) (hi.map a.eval) (mx.map a.eval)).run P W= .ok ((s.bnd lo 0).2.toNat,(s.bnd hi len).2.toNat,if mx=none then cap else (s.bnd mx dm).2.toNat) W:=by
 have gE:=zvY J h1
 have b3:=zvY J h2
 have iH:=zvY J h3
 generalize (s.bnd lo 0).2=l at*
 generalize (s.bnd hi len).2=hh at*
 generalize (s.bnd mx dm).2=m at*
 unfold Instr.sliceBounds
 rcases iH with ⟨rfl,rfl⟩|⟨ym,km,rfl,em⟩
 ·-- no third bound
  have vE:=h7 rfl
  rcases b3 with ⟨rfl,rfl⟩|⟨yh,kh,rfl,eh⟩
  .refine' Jb
   .simp
   .simp [el,za3 h4 h5]
  .refine' Jb
   .simp [eh,za3 fU vE]
   .have ta:l<=(hh.toNat:Int):=by omega
    simp [eh,el,za3 fU vE,za3 h4 ta]
 .obtain ⟨BO,vG⟩:=h6 fZ
  rcases b3 with ⟨rfl,rfl⟩|⟨yh,kh,rfl,eh⟩
  .grind
  .have lX:0<=m:=by omega
   have vH:hh<=(m.toNat:Int):=fT
   refine' Jb
   .simp [eh,em,za3 lX vG,za3 fU vH]
   .have ta:l<=(hh.toNat:Int):=by omega
    simp [eh,em,el,za3 lX vG,za3 fU vH,za3 h4 ta]
def zqd (l:List UInt8) i j:(⟨l.toArray⟩:ByteArray).extract i j=⟨((l.take j).drop i).toArray⟩:=by apply ByteArray.ext;simp [List.extract_eq_take_drop,cw]
end
open Go
section
variable {P : Program} {W : World} {E : Env} {s : AS} {a : Act}
def zeB {t} {x} {lo hi mx} {d} (h:P.underlying t=some d) (J:∀n e,d≠ .array n e):(Instr.sliceAt t x lo hi mx).run P W=(Instr.slice t x lo hi mx).run P W:=by unfold Instr.sliceAt;simp only [ai,run_underlying h,ah]
def Reps.ones {h} {X} (hX:∀ (x:D) v,RepD W (Xs E h) x v->RepD W X x v):∀ (cs:List AV) {vs:List Value},Reps W E h cs vs->cs.all AV.isD=true->∀us,RepRows W X 1 (cs.map AV.oneD) (vs++us)
 | [],_,_,_,_=>by simp only [bM,RepRows]
 | a::cs,vs,hr,J,us=>by
  simp only [Reps] at hr;obtain ⟨v,r,rfl,h1,h2⟩:=hr;simp only [bq,aq] at J;cases a with
  |d x=>
   simp only [Rep] at h1;simp only [au,AV.oneD,RepRows,bf,bl,dI,di,dg,cP,RepDs,bt];exact ⟨⟨v,[],rfl,fU,rfl⟩,Reps.ones hX cs h2 J.2 us⟩
  |_=>simp [AV.isD] at J
def ztS (hp:SatH E s.h W) (hs:Slots W E s a) {t} {x} {v} {lo hi mx} (hv:(zeq P s t x lo hi mx).1) (hx:Rep W E s.h x v):
  ∃u,(Instr.sliceAt t v (lo.map a.eval) (hi.map a.eval) (mx.map a.eval)).run P W= .ok u W∧Rep W E s.h (zeq P s t x lo hi mx).2 u:=by
 unfold zeq at hv ⊢
 dsimp only at hv ⊢
 split at hv
 ·-- a text
  rename_i b
  obtain ⟨rfl,ht,h1,h2,h4,h5,h6⟩:=hv
  refine' HX
  have hlen:(⟨b.toArray⟩:ByteArray).size=b.length:=mj
  have hb:=za7 (P:=P) (W:=W) hs (isS:=false) (len:=b.length) (cap:=b.length) (lo:=lo) (hi:=hi) (mx:=none) (dm:=0) fZ fU h1 h2 lg h4 h5 fZ fU
  rw [zeB (zdr ht) fZ]
  simp only [Instr.slice,ai,run_underlying (zdr ht),ah,cd,Option.isSome_none,bj,aK,hlen]
  simp only [cd] at hb
  simp only [hb,ah,ar]
  exact ⟨_,rfl,by rw [zqd]⟩
 ·-- data
  rename_i k xs
  obtain ⟨hm,⟨e,ht,hk,he⟩,h1,h2,h3,h4,h5,h6,h7⟩:=hv
  have hu:=zY ht
  refine' Is
  rw [zeB hu fZ]
  simp only [Rep,RepD] at hx ⊢
  rcases hx with ⟨rfl,p,cap,rfl⟩|⟨p,cap,c,T,fz,rfl,hsp,hcap,hX,hb,hr⟩
  ·have hb:=za7 (P:=P) (W:=W) hs (isS:=true) (len:=0) (cap:=cap) (lo:=lo) (hi:=hi) (mx:=mx) (dm:=(([]:List (List D)).length:Int)) hm fU h1 h2 h3 h4 h5 fU fU
   simp only [Instr.slice,ai,run_underlying hu,ah,hb,zQ hde,ar]
   refine ⟨_,rfl,.inl ⟨fZ,?_⟩⟩
   have e1:(s.bnd hi ((0:Nat):Int)).2≤0:=by
    grind
   have e2:(s.bnd hi ((0:Nat):Int)).2.toNat - (s.bnd lo 0).2.toNat=0:=fT
   simp_all
  ·have hb':=za7 (P:=P) (W:=W) hs (isS:=true) (len:=xs.length) (cap:=cap) (lo:=lo) (hi:=hi) (mx:=mx) (dm:=(xs.length:Int)) hm fU h1 h2 h3 h4 h5 fU fU
   simp only [Instr.slice,ai,run_underlying hu,ah,hb',zQ hde,ar]
   refine ⟨_,rfl,?_⟩
   generalize (s.bnd lo 0).2=l at*
   generalize (s.bnd hi xs.length).2=hh at*
   generalize (s.bnd mx xs.length).2=m at*
   have hlen:((xs.take hh.toNat).drop l.toNat).length=hh.toNat - l.toNat:=fU
   rcases cy (hh.toNat - l.toNat) with h0|h0
   ·exact .inl ⟨fU,ig⟩
   ·obtain ⟨pb,po,psp⟩:=p
    simp only at hsp hX hb hr
    subst hsp
    right
    have hne:¬(if mx=none then cap else m.toNat)=l.toNat:=fU
    refine ⟨⟨pb,po+l.toNat*k,none⟩,(if mx=none then cap else m.toNat) - l.toNat,c,T,fz,?_,rfl,?_,hX,hb,?_⟩
    ·rw [U hne,hlen,hk];simp [Addr.add_none]
    ·grind
    ·have:=RepRows.drop (RepRows.take hr hh.toNat) l.toNat
     simp_all
 ·-- an array of one's own
  rename_i i k n off len
  cases mx with
  | some m=>
   obtain ⟨hm,hc,⟨e,ht,hk,he⟩,h1,h2,h3,h4,h5,h6,h7⟩:=hv
   refine' Ew
   obtain ⟨p,cap,rfl,hcap⟩:∃p cap,v= .slice p len cap∧len≤cap:=by
    rcases g4 hn with ⟨⟨g5,g50⟩,rfl⟩|⟨b,hO,rfl⟩|⟨g5,rfl,p,cap,rfl⟩
    ·simp_all
    ·grind
    ·grind
   have hb:=za7 (P:=P) (W:=W) hs (isS:=true) (len:=len) (cap:=cap) (lo:=lo) (hi:=hi) (mx:=some m) (dm:=len) fU fU h1 h2 h3 h4 h5 fU fU
   simp only [Instr.slice,ai,run_underlying hu,ah,hb,zQ hde,ar]
   grind
  |none=>
  obtain ⟨hc,⟨e,ht,hk,he⟩,h1,h2,h4,h5,h6⟩:=hv
  refine' Ew
  have h6b:(off:Int)+(s.bnd hi len).2≤n:=fU
  have h6a:off≠0→(s.bnd hi len).2≤len:=fun e=>fU
  clear h6
  rcases g4 hn with ⟨⟨g5,g50⟩,rfl⟩|⟨b,hO,rfl⟩|⟨g5,rfl,p,cap,rfl⟩
  ·have hxs:xs= []:=by grind
   subst hxs
   simp only [aM] at hn g2
   have hl0:len=0:=fT
   subst hl0
   have hb:=za7 (P:=P) (W:=W) hs (isS:=true) (len:=0) (cap:=0) (lo:=lo) (hi:=hi) (mx:=none) (dm:=0) fZ fU h1 h2 lg h4 h5 fZ fU
   refine' Fi
   have e1:l.toNat=0:=fT
   have e2:hh.toNat=0:=fT
   refine ⟨_,rfl,⟨_,_,_,rfl⟩,[],g1,fU,fT,fun _=> .inl ⟨⟨g5,g50⟩,?_⟩⟩
   grind
  ·rcases hob with ⟨h0,_⟩|⟨b',c,T,fz,hO',hb,hsz,hcap,hrows,_⟩
   ·grind
   rw [hO] at hO';cases hO'
   have hb':=za7 (P:=P) (W:=W) hs (isS:=true) (len:=len) (cap:=E.C i - off) (lo:=lo) (hi:=hi) (mx:=none) (dm:=0) fZ fU h1 h2 lg h4 h5 fZ fU
   simp only [cd] at hb'
   simp only [Instr.slice,ai,run_underlying hu,ah,cd,hb',zQ hde,ar,av]
   generalize (s.bnd lo 0).2=l at*
   generalize (s.bnd hi len).2=hh at*
   refine ⟨_,rfl,⟨_,_,_,rfl⟩,xs,g1,g2,fT,fun _=> .inr ?_⟩
   by_cases hcl:E.C i - off=l.toNat
   ·grind
   ·left
    rw [U hcl]
    refine ⟨b,hO,?_⟩
    simp only [cz,Addr.add_none,hk]
    grind
  ·have h6:=h6a g5
   have hb:=za7 (P:=P) (W:=W) hs (isS:=true) (len:=0) (cap:=cap) (lo:=lo) (hi:=hi) (mx:=none) (dm:=0) fZ fU h1 h2 lg h4 h5 fZ fU
   refine' Fi
   refine ⟨_,rfl,⟨_,_,_,rfl⟩,xs,g1,g2,fT,fun _=> .inr (.inr ⟨fT,fT,?_⟩)⟩
   grind
 ·-- a whole array variable
  rename_i i off
  split at hv
  ·rename_i n e ht
   obtain ⟨rfl,rfl,rfl,he,hc⟩:=hv
   refine' Is
   refine' G1
   obtain ⟨b,cs,g1,g2,rfl⟩:=hx
   simp only [g1] at hc
   simp only [Instr.sliceAt,ai,run_underlying (zeR ht),ah,Instr.sureAddr,ar,cd,Instr.sliceBounds,zQ hde]
   refine ⟨_,rfl,b,cs,g1,g2,hc,?_⟩
   simp [Addr.add_none]
  ·grind
 ·-- an array told aZ data
  rename_i cs
  split at hv
  ·rename_i n e ht
   obtain ⟨rfl,rfl,he,h2,h4,h5,h6,h7⟩:=hv
   refine' Is
   refine' G1
   obtain ⟨p,c,T,fz,rfl,hsp,hX,hb,hr⟩:=hx
   have hb':=za7 (P:=P) (W:=W) hs (isS:=false) (len:=n) (cap:=n) (lo:=none) (hi:=hi) (mx:=none) (dm:=0) fZ fU lg h2 lg lg (by simpa [AS.bnd] using h4) fZ fU
   simp only [cd] at hb'
   simp only [Instr.sliceAt,ai,run_underlying (zeR ht),ah,Instr.sureAddr,ar,cd,hb',zQ hde]
   refine ⟨_,rfl,?_⟩
   simp only [RepD]
   generalize (s.bnd hi n).2=m at*
   have hb0:(s.bnd none 0).2=0:=lg
   obtain ⟨pb,po,psp⟩:=p
   simp only at hsp hX hb hr
   subst hsp
   have hlen:((cs.map AV.oneD).take m.toNat).length=m.toNat:=fU
   refine .inr ⟨⟨pb,po,none⟩,n,c,T,fz,?_,rfl,fU,hX,hb,?_⟩
   ·rw [hlen,hb0]
    simp [Addr.add_none]
   ·refine RepRows.take ?_ _
    have:=Reps.ones (W:=W) (E:=E) (h:=s.h) (X:=Xs E s.h) fU cs hr h7 ((c.toList.drop po).drop cs.length)
    rwa [bO] at this
  ·grind
 ·grind
def zvZ (J:Slots W E s a):∀ (l:List Operand),(l.all λx=>(s.ev x).1)=true->Reps W E s.h (l.map λx=>(s.ev x).2) (l.map a.eval)
 | [],_=>nr
 |x::l,h=>by simp only [bq,aq] at h;simp only [au,Reps];exact ⟨_,_,rfl,ev_ok J x h.1,zvZ J l h.2⟩
def zv0 {α β:Type} {f} {p q:β} {l:Array α} (h:l.toList.map f= [p,q]):∃x y,l= #[x,y]/\f x=p/\f y=q:=by
 obtain ⟨l⟩:=l;cases l with
 |nil=>grind
 | cons x l=>
  cases l with
  |nil=>grind
  |cons y l=>
   cases l with
   |nil=>grind
   |cons z l=>grind
def zv1 {α β:Type} {f} {p q r:β} {l:Array α} (h:l.toList.map f= [p,q,r]):∃x y z,l= #[x,y,z]/\f x=p/\f y=q/\f z=r:=by
 obtain ⟨l⟩:=l;cases l with
 |nil=>grind
 | cons x l=>
  cases l with
  |nil=>grind
  | cons y l=>
   cases l with
   |nil=>grind
   |cons z l=>
    cases l with
    |nil=>grind
    |cons u l=>grind
def zv2 (hp:SatH E s.h W) (hs:Slots W E s a) {c} {o} (hv:(zgC P s c).1):
  ∃v,(do let d <-resolve a.eval c o;invoke d.target d.args).run P W= .ok (.value v) W/\Rep W E s.h (zgC P s c).2 v:=by
 obtain ⟨callee,args,argTypes⟩:=c;unfold zgC at hv |-;dsimp only at hv |-;split at hv
 .split at hv
  .rename_i x t J ht;have xY:args= #[x]:=fU;have nm:argTypes= #[t]:=fU;subst xY nm;obtain ⟨v,h1,h2⟩:=zzd (P:=P) hp hv.2 (ev_ok hs x hv.1) #[t] rfl o #[a.eval x] rfl;refine ⟨v,?_,h2⟩;simp [resolve,invoke,builtin,h1]
  .grind
 .split at hv
  .refine' Fp;simp [resolve,invoke,builtin,Builtin.min_,J,hy,Builtin.min2,Rep,RepD,imin]
  .rename_i gx k m gy k' n gz tc q he;obtain ⟨x,y,z,rfl,e1,e2,e3⟩:=zv1 he;have J:=ev_ok hs x fU;have hy:=ev_ok hs y fU;have hz:=ev_ok hs z fU;rw [e1] at J;rw [e2] at hy;rw [e3] at hz;simp only [Rep,RepD] at J hy hz;simp [resolve,invoke,builtin,Builtin.min_,J,hy,hz,Builtin.min2,Rep,RepD,imin];try rfl
  .grind
 .split at hv
  .refine' Fp;simp [resolve,invoke,builtin,Builtin.max_,J,hy,Builtin.max2,Rep,RepD,imax]
  .grind
 .grind
def zqe {P} {W} {E} {s:AS} {T} {xt} {ok} {x} {v} (h:(zg8 P T ok x).1) (hx:Rep W E s.h x v):∃r,(Instr.typeAssert v xt T ok).run P W= .ok r W/\Rep W E s.h (zg8 P T ok x).2 r:=by
 unfold zg8 at h |-;split at h
 .rename_i t y;split at h
  .rename_i hc;obtain ⟨rfl,h1,h2⟩:=hc;refine' Fz;obtain ⟨u,rfl,hu⟩:=hx;obtain ⟨d,J⟩:=zcp h2;rw [td_of J] at h1;rw [aa ⟨rfl,by rw [td_of J];omega,h2⟩]
   have hsel:(Instr.typeAssert (.iface t u) xt T true).run P W=(if t=T then (pure (Value.tuple #[u,.bool true]):Sem Value) else (do pure (Value.tuple #[<-zeroValue T,.bool false]))).run P W:=by simp only [Instr.typeAssert,ai,run_underlying J,ah];cases d<;>first|(exact absurd rfl h1)|rfl
   rw [hsel];by_cases e:t=T
   .subst e;rw [aa rfl,aa rfl];exact ⟨.tuple #[u,.bool true],fZ,by simp only [Rep,Reps,RepD];grind⟩
   .rw [U e,U e];rw [U e] at h;split at h
    .rename_i z hz;obtain ⟨g1,g2⟩:=h;obtain ⟨i,z',q1,q2,q3,q4,q5,q6⟩:=ziz g1;rw [g2] at q4;refine ⟨.tuple #[z',.bool false],by simp [zfX q1 q2],?_⟩;have lR:z'.cells= #[z']:=by cases z'<;>first|rfl|grind
     rw [hz,lR] at q3;simp only [gndL,cR] at q3;simp only [Rep,Reps,RepD];exact ⟨_,rfl,z',[.bool false],rfl,zqa q3,.bool false,[],rfl,rfl,rfl⟩
    .grind
  .grind
 .grind
def zqf (hp:SatH E s.h W) (hs:Slots W E s a) o (J:(aval P s o.op).1):
  ∃v,(execOp a.eval o).run P W= .ok (.value v) W/\Rep W E s.h (aval P s o.op).2 v:=by
 refine' Eo;dsimp only at J |-;unfold aval at J |-;split at J<;>(try dsimp only at J |-)
 .rename_i op t x y _;obtain ⟨v,h1,h2⟩:=zze J.2.2 (ev_ok hs x J.1) (ev_ok hs y J.2.1) x y;exact ⟨v,by unfold execOp;dsimp only;rw [ai,h1];simp,h2⟩
 .rename_i op _ x;obtain ⟨v,h1,h2⟩:=zDF (P:=P) J.2 (ev_ok hs x J.1) W;refine' Jf
 .rename_i src dst x;obtain ⟨v,h1,h2⟩:=zn4 (P:=P) J.2 (ev_ok hs x J.1);refine' Jf
 .rename_i t x;obtain ⟨hg,h1,h2⟩:=J;obtain ⟨d,hd⟩:=zcp h1;have hx:=ev_ok hs x hg;refine ⟨.iface t (a.eval x),?_,by simp only [Rep];grind⟩;simp only [execOp,Instr.makeInterface,ai,run_underlying hd,ah];rw [td_of hd] at h2;cases d<;>first|(exact absurd rfl h2)|simp
 .rename_i f fs cs;refine ⟨.func f (fs.map a.eval) (cs.map a.eval),by simp [execOp,Instr.makeFunc],?_⟩;refine' Fg;simp only [cS,ey,aq] at J;exact ⟨_,_,rfl,by simpa using zvZ hs fs.toList J.1,by simpa using zvZ hs cs.toList J.2⟩
 .rename_i t x f;obtain ⟨v,h1,h2⟩:=ztQ (P:=P) (s:=s) J.2 (ev_ok hs x J.1);refine' Jf
 .rename_i t x f;obtain ⟨v,h1,h2⟩:=zld (P:=P) (s:=s) J.2 (ev_ok hs x J.1);refine' Jf
 .rename_i t x y;obtain ⟨v,h1,h2⟩:=zlf (P:=P) hp J.2.2 (ev_ok hs x J.1) (ev_ok hs y J.2.1);refine' Jf
 .rename_i t x y;obtain ⟨v,h1,h2⟩:=ztR (P:=P) (s:=s) J.2.2 (ev_ok hs x J.1) (ev_ok hs y J.2.1);refine' Jf
 .rename_i t x lo hi mx;obtain ⟨v,h1,h2⟩:=ztS (P:=P) hp hs J.2 (ev_ok hs x J.1);refine' Jf
 .rename_i t x;obtain ⟨v,h1,h2⟩:=zn3 (P:=P) hp J.2 (ev_ok hs x J.1);refine' Jf
 .rename_i x;obtain ⟨hg,hm⟩:=J;have hx:=ev_ok hs x hg;refine ⟨a.eval x,?_,hx⟩;simp only [execOp];generalize a.eval x=y at hx;split at hm<;>rename_i he
  .refine' G7;obtain ⟨b,cs,_,_,rfl⟩:=hx;simp
  .refine' G7;obtain ⟨b,t',cs,_,_,rfl⟩:=hx;simp
  .refine' G7;obtain ⟨a,c,T,fz,rfl,_⟩:=hx;simp
  .refine' G7;obtain ⟨-,xs,h1,h2,h3⟩:=hx;obtain ⟨b,_,rfl⟩:=h3 (by simpa [AS.cur,h1] using hm);simp
  .refine' G7;obtain ⟨p,q,rfl,_⟩:=hx;simp
  .grind
 .rename_i x i;split at J
  .rename_i g vs he;dsimp only at J;have hx:=ev_ok hs x fU;rw [he] at hx;refine' Fz;obtain ⟨us,hu,hr⟩:=hx;obtain ⟨v,mX,pn⟩:=Reps.get hr (getD_some (d:= .any) J.2);have:us[i]?=some v:=fU;exact ⟨v,by simp [execOp,hu,Instr.extract,this],pn⟩
  .grind
 .rename_i t x y ok;obtain ⟨v,h1,h2⟩:=zqc (P:=P) hp J.2.2 (ev_ok hs x J.1) (ev_ok hs y J.2.1);refine' Jf
 .rename_i c;obtain ⟨v,h1,h2⟩:=zv2 (P:=P) hp hs (o:=ot) J;exact ⟨v,by simpa [execOp] using h1,h2⟩
 .rename_i x xt T ok;obtain ⟨v,h1,h2⟩:=zqe (P:=P) (xt:=xt) J.2 (ev_ok hs x J.1);refine' Jf
end
open Go
def zi:∀ {h:AHeap} {i:Nat} {o J:AObj},hget h i=some o->hget (hset h i J) i=some J
  | [],i,o,J,h=>by simp [hget] at h
  | (j,oj)::r,i,o,J,h=>by
    simp only [hget,hset] at h |-;by_cases e:j=i
    · simp [e,hget]
    · simp only [e,aK] at h |-
      simp [hget,e,zi h]
def zS:∀ {h:AHeap} {i j:Nat} {J:AObj},j≠i->hget (hset h i J) j=hget h j
  | [],i,j,J,_=>by simp [hset]
  | (k,ok)::r,i,j,J,b5=>by
    simp only [hset];by_cases e:k=i
    · simp only [e,av,hget]
      grind
    · simp only [e,aK,hget,zS b5]
def zv3 {fl} :∀ {h:AHeap} {i:Nat},(hget h i).isSome->i<top fl h
  | [],i,hi=>gK
  | (k,o)::r,i,hi=>by
    simp only [hget] at hi;simp only [top];by_cases e:k=i
    · grind
    · rw [U e] at hi
      have:=zv3 (fl:=fl) hi
      grind
def zh3 fl:∀ (h:AHeap),fl<=top fl h
  | []=>aj _
  | (k,o)::r=>by
    have:=zh3 fl r;simp only [top]
    grind
def zbg fl h:fl<=fresh fl h:=by
 unfold fresh;split
 .exact zh3 fl h
 .grind
def zzf fl h:hget h (top fl h)=none:=by
 cases e:hget h (top fl h) with
 |none=>rfl
 |some o=>exact absurd (zv3 (fl:=fl) (h:=h) (i:=top fl h) fU) fU
def zcj fl h:hget h (fresh fl h)=none:=by
 unfold fresh;split
 .exact zzf fl h
 .simp_all
def zjF {fl} {h} (e:hget h fl=none):fresh fl h=fl:=by
 unfold fresh
 grind
def Env.set (E:Env) (i:Nat) (b:Option Nat) (c:Nat):Env:= { E with O:=λj=>if j=i then b else E.O j,C:=λj=>if j=i then c else E.C j }
section
variable {E E' : Env} {h h' : AHeap} {w w' : World} {i : Nat}
structure Chg (E:Env) (h:AHeap) (w:World) (E':Env) (h':AHeap) (w':World) (i:Nat):Prop where
 os:w'.os=w.os
 tape:w'.tape=w.tape
 output:w'.output=w.output
 size:w.heap.size<=w'.heap.size
 envO:∀j,j≠i->E'.O j=E.O j
 envC:∀j,j≠i->E'.C j=E.C j
 M:E'.M=E.M
 N:E'.N=E.N
 hh:∀j,j≠i->hget h' j=hget h j
 gi:GoesOn E h E' h' i
 blk:∀b,b<w.heap.size->¬((hget h i).isSome/\E.O i=some b)->w'.heap[b]?=w.heap[b]?
 new:∀b,(hget h' i).isSome->E'.O i=some b->((hget h i).isSome/\E.O i=some b)\/(w.heap.size<=b/\b<w'.heap.size)
def Chg.goesOn (c:Chg E h w E' h' w' i) j:GoesOn E h E' h' j:=by
 by_cases e:j=i
 .subst e;exact c.gi
 .unfold GoesOn;rw [c.hh j e];cases J:hget h j with
  |none=>trivial
  |some o=>cases o<;>simp [c.envO j e,c.envC j e]
def Chg.own (c:Chg E h w E' h' w' i) {b} (J:Own E' h' b):Own E h b\/w.heap.size<=b:=by
 obtain ⟨j,hj,hb⟩:=J;by_cases e:j=i
 .subst e;rcases c.new b hj hb with ⟨h1,h2⟩|⟨h1,_⟩
  .exact .inl ⟨j,h1,h2⟩
  .grind
 .exact .inl ⟨j,by rwa [<-c.hh j e],by rwa [<-c.envO j e]⟩
def Chg.hX (c:Chg E h w E' h' w' i):∀b,b<w.heap.size->Xs E' h' b->Xs E h b:=λb hb J=>by
 rcases J with J|J|J
 .rcases c.own J with h1|h1
  .exact .inl h1
  .omega
 .exact .inr (.inl th)
 .exact .inr (.inr (by rwa [<-c.N]))
def Chg.hK (c:Chg E h w E' h' w' i):∀b,b<w.heap.size->¬Xs E h b->w'.heap[b]?=w.heap[b]?:=λb J hx=>
 c.blk b J (λ⟨h1,h2⟩=>hx (.inl ⟨i,h1,h2⟩))
def Chg.rep (c:Chg E h w E' h' w' i) {a} {v} (J:Rep w E h a v):Rep w' E' h' a v:=Rep.step c.hX c.hK a v (λj _=>c.goesOn j) J
def Chg.reps (c:Chg E h w E' h' w' i) {a} {v} (J:Reps w E h a v):Reps w' E' h' a v:=Reps.step c.hX c.hK a v (λj _=>c.goesOn j) J
def Chg.rows (c:Chg E h w E' h' w' i) {k} {xs} {v} (J:RepRows w (Xs E h) k xs v):RepRows w' (Xs E' h') k xs v:=RepRows.step c.hX c.hK k xs v J
def Chg.evo {fl} (c:Chg E h w E' h' w' i) (hf:(hget h i).isSome\/fl<=i):Evo fl E h w E' h' w' where
 os:=c.os
 tape:=c.tape
 output:=c.output
 size:=c.size
 keep:=λb J ho _=>c.blk b J (λ⟨h1,h2⟩=>ho ⟨i,h1,h2⟩)
 own:=λb J=>c.own J
 m1:=λb J=>by rwa [c.M]
 m2:=λb J=> .inl th
 n:=c.N
 go:=λj hj hl=>⟨by
  by_cases e:j=i
  .grind
  .rwa [<-c.hh j e],c.goesOn j⟩
def Chg.satH (c:Chg E h w E' h' w' i) (J:SatH E h w) (ec:∀o,hget h' i=some o->RepObj w' E' h' i o):SatH E' h' w' where
 heap:=λj o ho=>by
  by_cases e:j=i
  .grind
  .have iO:=ho;rw [c.hh j e] at iO;have:=J.heap j o iO;have b5:∀b,E.O j=some b->¬((hget h i).isSome/\E.O i=some b):=λb hb ⟨h1,h2⟩=>e (J.inj j i b fU h1 hb h2);have bs:∀b,E.O j=some b->b<w.heap.size:=λb hb=>(J.own b ⟨j,fU,hb⟩).1;cases o with
   |var cs=>
    refine' Dk;refine' DJ;refine' Jh
   |tvar tt cs=>
    refine' Dk;refine' DJ;refine' Jh
   |arr k xs=>
    simp only [RepObj,c.envO j e,c.envC j e] at this |-;refine' D6
    .grind
    .exact .inr ⟨b,d,T,fz,h1,(c.blk b fU fU).trans h2,h3,h4,c.rows h5,h6⟩
   |buf tt xs=>
    simp only [RepObj,c.envO j e,c.envC j e] at this |-;refine' D6
    .grind
    .exact .inr ⟨b,d,T,fz,h1,(c.blk b fU fU).trans h2,h3,h4,h5,h6⟩
   |strit l p=>
    simp only [RepObj,c.envO j e] at this |-;obtain ⟨b,h1,h2⟩:=this;exact ⟨b,h1,(c.blk b fU fU).trans h2⟩
   |omap es=>
    simp only [RepObj,c.envO j e] at this |-;obtain ⟨b,m,cl,h1,h2,h3⟩:=this;exact ⟨b,m,cl,h1,(c.blk b fU fU).trans h2,h3⟩
 inj:=λj l b hj hl h1 h2=>by
  have key:∀j b,j≠i->(hget h' j).isSome->E'.O j=some b->(hget h' i).isSome->E'.O i=some b->j=i:=λj b e hj h1 hi h2=>by
   rw [c.hh j e] at hj;rw [c.envO j e] at h1;have hb:=(J.own b ⟨j,hj,h1⟩).1;rcases c.new b hi h2 with ⟨h3,h4⟩|⟨h3,_⟩
   .exact J.inj j i b hj h3 h1 h4
   .omega
  by_cases e1:j=i
  .grind
  .by_cases e2:l=i
   .grind
   .exact J.inj j l b (by rwa [<-c.hh j e1]) (by rwa [<-c.hh l e2]) (by rwa [<-c.envO j e1]) (by rwa [<-c.envO l e2])
 own:=λb hb=>by
  rcases hb with ⟨j,hj,hb⟩
  rw [c.M,c.N];by_cases e:j=i
  .subst e;rcases c.new b hj hb with ⟨h1,h2⟩|⟨h1,h2⟩
   .have:=J.own b ⟨j,h1,h2⟩;exact ⟨aE this.1 c.size,this.2⟩
   .exact ⟨h2,λhm=>by have:=J.mlt b hm;omega,λhm=>by have:=J.nlt b hm;omega⟩
  .have:=J.own b ⟨j,by rwa [<-c.hh j e],by rwa [<-c.envO j e]⟩;exact ⟨aE this.1 c.size,this.2⟩
 mlt:=λb hb=>aE (J.mlt b th) c.size
 nlt:=λb hb=>aE (J.nlt b (by rwa [<-c.N])) c.size
def Marks.step {base} {ds} (hm:Marks base E w ds) (hM:∀b,b<w.heap.size->E'.M b->E.M b)
  (hk:∀r,w.heap[r]?=some (.deferred (some []))->¬E.M r->w'.heap[r]?=w.heap[r]?):Marks base E' w' ds:=by
 refine ⟨λd J=>?_,hm.2⟩;obtain ⟨r,h1,h2,h3,h4⟩:=hm.1 d J
 grind
def SatH.not_mark (J:SatH E h w) {r} {ds} (hr:w.heap[r]?=some (.deferred ds)):¬Own E h r:=by
 rintro ⟨j,hj,hb⟩;obtain ⟨o,ho⟩:=bE.1 hj;have:=J.heap j o ho;cases o with
 |var cs=>simp only [RepObj] at this;grind
 |tvar tt cs=>simp only [RepObj] at this;grind
 |arr k xs=>
  simp only [RepObj] at this
  grind
 |buf tt xs=>
  simp only [RepObj] at this
  grind
 |strit l p=>simp only [RepObj] at this;grind
 |omap es=>simp only [RepObj] at this;grind
def Chg.sat {cx} {t} {g} {a} (c:Chg E h w E' h' w' i) (J:Sat cx E ⟨t,h,g⟩ a w) (ec:∀o,hget h' i=some o->RepObj w' E' h' i o):Sat cx E' ⟨t,h',g⟩ a w' where
 slots:=λk gg v hk=>by obtain ⟨x,h1,h2,h3⟩:=J.slots k gg v hk;exact ⟨x,h1,λe=>c.rep (h2 e),h3⟩
 nt:=J.nt
 hp:=c.satH J.hp ec
 base:=⟨aD J.base.1 c.size,J.base.2⟩
 marks:=J.marks.step (λb _ hb=>th) (λr hr _=>c.blk r (aI.1 hr).1 (λ⟨h1,h2⟩=>J.hp.not_mark hr ⟨i,h1,h2⟩))
 ghost:=by rw [c.M,c.N];exact cx.stab _ _ _ _ _ _ _ (λb hb ho=>c.blk b hb (λ⟨h1,h2⟩=>ho (.inl ⟨i,h1,h2⟩))) (λb hb=>hb.elim (λhb=>(c.own hb).imp .inl id) fU) (λb hb=>hb.elim (λh=>((c.satH J.hp ec).own b h).1) (λh=>aE (J.marks.lt h) c.size)) c.size c.tape c.os c.output J.ghost
def Sat.put {cx} {s} {a} {d} {g} {v} {x} (J:Sat cx E s a w) (hd:∀k,d=some k->k<cx.nt) (hr:g=true->Rep w E s.h v x) (hu:g=false->x=undef):
  Sat cx E (s.put d g v) (a.put d x) w:=by
 cases d with
 |none=>exact J
 | some k=>
  refine ⟨?_,by simp [Act.put,J.nt],J.hp,J.base,J.marks,J.ghost⟩;intro j gg u hj;simp only [AS.put,lk] at hj;split at hj
  .rename_i e;subst e;simp only [aB,aJ] at hj;obtain ⟨rfl,rfl⟩:=hj;have:k<a.tmps.size:=by rw [J.nt];grind
   exact ⟨x,by simp [Act.put,this],hr,hu⟩
  .rename_i e;obtain ⟨y,h1,h2⟩:=J.slots j gg u hj;refine ⟨y,?_,h2⟩;simp only [Act.put]
   grind
end
open Go
def AV.leaf:AV->Bool
 | .agg _| .tup _| .any| .raw _=>false
 |_=>true
def AV.cells:AV->List AV
 | .agg cs=>cs
 |v=> [v]
def AV.cellsOk:AV->Bool
 | .agg cs=>cs.all AV.leaf
 |v=>v.leaf
def putL {α:Type} :List α->Nat->List α->List α
 |cs,_,[]=>cs
 |cs,o,v::vs=>putL (cs.set o v) (o+1) vs
def zeS {α} :∀ (cs:List α) (o:Nat) (vs:List α),(putL cs o vs).length=cs.length
 |cs,o,[]=>rfl
 |cs,o,v::vs=>by simp [putL,zeS]
def putA:Array Value->Nat->List Value->Array Value
 |c,_,[]=>c
 |c,o,v::vs=>putA (c.setIfInBounds o v) (o+1) vs
def zds:∀ (c:Array Value) (o:Nat) (vs:List Value),(putA c o vs).size=c.size
 |c,o,[]=>rfl
 |c,o,v::vs=>by simp [putA,zds]
def zdd:∀ (c:Array Value) (o:Nat) (vs:List Value),(putA c o vs).toList=putL c.toList o vs
 |c,o,[]=>rfl
 |c,o,v::vs=>by simp [putA,putL,zdd]
section
variable {P : Program} {W : World} {E : Env} {h : AHeap}
def RepD.one {X} {x} {v} (J:RepD W X x v):v.oneCell'=true:=by
 cases x<;>simp only [RepD] at J
 case sl=>
  rcases J with ⟨_,a,cap,rfl⟩|⟨a,cap,c,T,fz,rfl,_⟩<;>rfl
 all_goals (subst J;rfl)
def Rep.one {a} {v} (hl:a.leaf=true) (J:Rep W E h a v):v.oneCell'=true:=by
 cases a<;>simp only [Rep] at J
 case d=>exact RepD.one J
 case osl=>obtain ⟨⟨_,_,_,rfl⟩,_⟩:=J;rfl
 case ap=>obtain ⟨⟨_,rfl⟩,_⟩:=J;rfl
 case agg=>cases hl
 case tup=>cases hl
 case any=>cases hl
 case raw=>cases hl
 case nils=>subst J;rfl
 case nilfn=>subst J;rfl
 case nilmap=>subst J;rfl
 case dp=>obtain ⟨_,_,_,_,rfl,_⟩:=J;rfl
 case vp=>obtain ⟨_,_,_,_,rfl⟩:=J;rfl
 case bsl=>obtain ⟨⟨_,_,_,rfl⟩,_⟩:=J;rfl
 case tp=>obtain ⟨_,_,_,_,_,rfl⟩:=J;rfl
 case vsl=>obtain ⟨_,_,_,_,_,_,_,rfl⟩:=J;rfl
 case asl=>obtain ⟨_,_,_,_,_,rfl,_⟩:=J;rfl
 case fn=>obtain ⟨_,_,rfl,_⟩:=J;rfl
 case map=>obtain ⟨_,_,_,_,rfl⟩:=J;rfl
 case itr=>obtain ⟨_,_,_,_,_,rfl⟩:=J;rfl
 case iface=>obtain ⟨_,rfl,_⟩:=J;rfl
 case amap=>obtain ⟨_,_,_,rfl,_⟩:=J;rfl
def Reps.putL:∀ {cs:List AV} {c:List Value},Reps W E h cs c->∀ (o:Nat) {vs:List AV} {us:List Value},Reps W E h vs us->Reps W E h (putL cs o vs) (putL c o us)
 |cs,c,J,o,[],us,hu=>by simp only [Reps] at hu;subst hu;exact J
 |cs,c,J,o,v::vs,us,hu=>by simp only [Reps] at hu;obtain ⟨u,r,rfl,h1,h2⟩:=hu;exact Reps.putL (J.set h1) (o+1) h2
def World.row (w:World) (b:Nat) (o:Obj):World:= { w with heap:=w.heap.setIfInBounds b o }
def zfY {w} {b} {c} {T} {fz} (J:w.heap[b]?=some (.cells c T fz)) o v:w.setCell ⟨b,o,none⟩ v=World.row w b (.cells (c.setIfInBounds o v) T fz):=by
 obtain ⟨ab,ib⟩:=aI.1 J;unfold World.setCell World.row;congr 1
 grind
def zfu {w} {b} {o} (h:b<w.heap.size):(World.row w b o).heap[b]?=some o:=by simp [World.row,h]
def zeT {w} {b k} {o} (h:k≠b):(World.row w b o).heap[k]?=w.heap[k]?:=by
 simp [World.row,fe (bx h)]
def zB8 {w} {b} {o J} :World.row (World.row w b o) b J=World.row w b J:=by simp only [World.row];simp_all
@[simp] def row_size {w} {b} {o} :(World.row w b o).heap.size=w.heap.size:=by simp [World.row]
def zcY {b} {T} {fz} o:∀ (vs:List Value) (i:Nat) (c:Array Value) (w:World),w.heap[b]?=some (.cells c T fz)->zbz fz c.size->o+i+vs.length<=c.size->(∀v∈vs,v.oneCell'=true)->
  (storeCells ⟨b,o,none⟩ vs i).run P w= .ok () (World.row w b (.cells (putA c (o+i) vs) T fz))
 | [],i,c,w,hb,_,_,_=>by simp only [storeCells,ar,putA];congr 1;unfold World.row;obtain ⟨J,ib⟩:=aI.1 hb;rw [<-ib];rw [ez,dif_pos J,eA]
 | v::vs,i,c,w,hb,hf,hl,h1=>by
  simp only [aC] at hl;have J:=(aI.1 hb).1;have hc:w.cell? ⟨b,o+i,none⟩=some c[o+i]:=by rw [zI hb];grind
  have mo:w.frozen? ⟨b,o+i,none⟩=false:=by
   rw [zai hb];have:=hf (o+i) fT
   grind
  have ih:=zcY o vs (i+1) (c.setIfInBounds (o+i) v) (World.row w b (.cells (c.setIfInBounds (o+i) v) T fz)) (zfu J) fU fU fU;simp only [storeCells,ai,Addr.add_none];rw [run_store P w _ v .plain fU];simp only [hc,mo,bj,aK,ah,zfY hb,ih,zB8,putA];rfl
def zgD {b o} {t} {c} {T} {fz} {v} {w} (J:(ty P t).td≠ .other) (hb:w.heap[b]?=some (.cells c T fz)) (hf:zbz fz c.size) (hs:v.cells.size=(ty P t).size) (hl:o+(ty P t).size<=c.size) (h1:∀x∈v.cells.toList,x.oneCell'=true):
  (storeVar t ⟨b,o,none⟩ v).run P w= .ok () (World.row w b (.cells (putA c o v.cells.toList) T fz)):=by
 obtain ⟨d,hd⟩:=zcp J;simp only [storeVar,ai,zQ hd,ah,hs,ne_eq,dJ,aK];rw [show ((do (pure PUnit.unit:Sem PUnit);storeCells ⟨b,o,none⟩ v.cells.toList):Sem Unit)=storeCells ⟨b,o,none⟩ v.cells.toList from rfl];have:=zcY (P:=P) (fz:=fz) (T:=T) o v.cells.toList 0 c w hb hf fU h1
 grind
def Rep.cells {a} {v} (J:Rep W E h a v) (hl:a.cellsOk=true):Reps W E h a.cells v.cells.toList/\∀x∈v.cells.toList,x.oneCell'=true:=by
 have key:∀ {aZ:List AV} {vs:List Value},Reps W E h aZ vs->aZ.all AV.leaf=true->∀x∈vs,x.oneCell'=true:=by
  intro aZ;induction aZ with
  |nil=>intro vs J _ x hx;simp only [Reps] at J;grind
  |cons a aZ ih=>
   intro vs J hl x hx;refine' Ip;obtain ⟨v,r,rfl,h1,h2⟩:=J;simp only [bq,aq] at hl;rcases bg.1 hx with rfl|hx
   .exact Rep.one hl.1 h1
   .grind
 by_cases te:∃cs,a= .agg cs
 .obtain ⟨cs,rfl⟩:=te;simp only [Rep] at J;obtain ⟨vs,rfl,h1⟩:=J;exact ⟨h1,key h1 hl⟩
 .have xZ:a.leaf=true:=by cases a<;>first|(exact absurd ⟨_,rfl⟩ te)|exact hl
  have h1:=Rep.one xZ J;have e1:a.cells= [a]:=by cases a<;>first|(exact absurd ⟨_,rfl⟩ te)|rfl
  have e2:v.cells= #[v]:=by cases v<;>first|rfl|(simp [Value.oneCell'] at h1)
  rw [e1,e2];simp only [Reps]
  grind
def ziC {w} fl (hs:SatH E h w) ob o cap:Chg E h w (E.set (fresh fl h) (some w.heap.size) cap) ((fresh fl h,o)::h) (w.alloc ob) (fresh fl h) where
 os:=rfl
 tape:=rfl
 output:=rfl
 size:=fZ
 envO:=λj e=>gY
 envC:=λj e=>gY
 M:=rfl
 N:=rfl
 hh:=λj e=>kT
 gi:=mK
 blk:=λb J _=>by
  show (w.heap.push ob)[b]?=_
  grind
 new:=λb _ J=>by simp only [Env.set,av,aB] at J;simp_all
def zeb (w:World) ob:(w.alloc ob).heap[w.heap.size]?=some ob:=by show (w.heap.push ob)[w.heap.size]?=_;simp
def zqg {cx} {s} {a} {w} (J:Sat cx E s a w) {cs} {vs} (hr:Reps w E s.h cs vs.toList) T:
  Sat cx (E.set (fresh cx.fl s.h) (some w.heap.size) 0) { s with h:=(fresh cx.fl s.h,.var cs)::s.h } a (w.alloc (.cells vs T))/\Evo cx.fl E s.h w (E.set (fresh cx.fl s.h) (some w.heap.size) 0) ((fresh cx.fl s.h,.var cs)::s.h) (w.alloc (.cells vs T))/\
  Rep (w.alloc (.cells vs T)) (E.set (fresh cx.fl s.h) (some w.heap.size) 0) ((fresh cx.fl s.h,.var cs)::s.h) (.vp (fresh cx.fl s.h) 0) (.pointer (some ⟨w.heap.size,0,none⟩)):=by
 have c:=ziC cx.fl J.hp (.cells vs T) (.var cs) 0;refine' D5
 .refine' DD;exact ⟨w.heap.size,vs,T,(0,0),gM,zeb w _,c.reps hr,pg⟩
 .refine' Fg;exact ⟨w.heap.size,cs,iJ,gM,rfl⟩
def zly {cx} {s} {a} {w} (J:Sat cx E s a w) {cs} {vs} (hr:Reps w E s.h cs vs.toList) ty T:
  Sat cx (E.set (fresh cx.fl s.h) (some w.heap.size) 0) { s with h:=(fresh cx.fl s.h,.vr ty T cs)::s.h } a (w.alloc (.cells vs T))/\Evo cx.fl E s.h w (E.set (fresh cx.fl s.h) (some w.heap.size) 0) ((fresh cx.fl s.h,.vr ty T cs)::s.h) (w.alloc (.cells vs T))/\
  Rep (w.alloc (.cells vs T)) (E.set (fresh cx.fl s.h) (some w.heap.size) 0) ((fresh cx.fl s.h,.vr ty T cs)::s.h) (.pt ty (fresh cx.fl s.h) 0) (.pointer (some ⟨w.heap.size,0,none⟩)):=by
 cases ty with
 |false=>exact zqg J hr T
 | true=>
  have c:=ziC cx.fl J.hp (.cells vs T) (.tvar T cs) 0;refine' D5
  .refine' DD;exact ⟨w.heap.size,vs,T,(0,0),gM,zeb w _,c.reps hr,pg,rfl⟩
  .simp only [AV.pt,AObj.vr,av,Rep];exact ⟨w.heap.size,T,cs,iJ,gM,rfl⟩
def zqh {w} (hs:SatH E h w) {i} {cs cs'} (hi:hget h i=some (.var cs)) (hl:cs'.length=cs.length) {b} (hb:E.O i=some b) ob:Chg E h w E (hset h i (.var cs')) (World.row w b ob) i where
 os:=rfl
 tape:=rfl
 output:=rfl
 size:=fZ
 envO:=λj e=>rfl
 envC:=λj e=>rfl
 M:=rfl
 N:=rfl
 hh:=λj e=>zS e
 gi:=by unfold GoesOn;rw [hi];exact ⟨rfl,cs',zi hi,hl⟩
 blk:=λk J hn=>zeT fU
 new:=λk _ J=> .inl ⟨fU,J⟩
def zjG {w} (hs:SatH E h w) {i} {t} {cs cs'} (hi:hget h i=some (.tvar t cs)) (hl:cs'.length=cs.length) {b} (hb:E.O i=some b) ob:Chg E h w E (hset h i (.tvar t cs')) (World.row w b ob) i where
 os:=rfl
 tape:=rfl
 output:=rfl
 size:=fZ
 envO:=λj e=>rfl
 envC:=λj e=>rfl
 M:=rfl
 N:=rfl
 hh:=λj e=>zS e
 gi:=by unfold GoesOn;rw [hi];exact ⟨rfl,cs',zi hi,hl⟩
 blk:=λk J hn=>zeT fU
 new:=λk _ J=> .inl ⟨fU,J⟩
def zzg {cx} {s} {a} {w} (J:Sat cx E s a w) {i} {t} {cs vs} (hi:hget s.h i=some (.tvar t cs)) {o} {us} (hr:Reps w E s.h vs us)
  {b} {c} {T} {fz} (hb:E.O i=some b) (hc:w.heap[b]?=some (.cells c T fz)):
  Sat cx E { s with h:=hset s.h i (.tvar t (Aw.putL cs o vs)) } a (World.row w b (.cells (putA c o us) T fz))/\Evo cx.fl E s.h w E (hset s.h i (.tvar t (Aw.putL cs o vs))) (World.row w b (.cells (putA c o us) T fz)):=by have ch:=zjG J.hp hi (cs':=Aw.putL cs o vs) (zeS _ _ _) hb (.cells (putA c o us) T fz);refine ⟨ch.sat J (λob ho=>?_),ch.evo fU⟩;rw [zi hi] at ho;cases ho;obtain ⟨b',c',T',vI,h1,h2,h3,h4,h5⟩:=J.hp.tvar hi;rw [hb] at h1;cases h1;rw [hc] at h2;cases h2;simp only [RepObj];refine ⟨b,putA c o us,T,fz,hb,zfu (aI.1 hc).1,?_,mW,h5⟩;rw [zdd];exact Reps.putL (ch.reps h3) o (ch.reps hr)
def zB9 {cx} {s} {a} {w} (J:Sat cx E s a w) {i} {cs vs} (hi:hget s.h i=some (.var cs)) {o} {us} (hr:Reps w E s.h vs us)
  {b} {c} {T} {fz} (hb:E.O i=some b) (hc:w.heap[b]?=some (.cells c T fz)):
  Sat cx E { s with h:=hset s.h i (.var (Aw.putL cs o vs)) } a (World.row w b (.cells (putA c o us) T fz))/\Evo cx.fl E s.h w E (hset s.h i (.var (Aw.putL cs o vs))) (World.row w b (.cells (putA c o us) T fz)):=by have ch:=zqh J.hp hi (cs':=Aw.putL cs o vs) (zeS _ _ _) hb (.cells (putA c o us) T fz);refine ⟨ch.sat J (λob ho=>?_),ch.evo fU⟩;rw [zi hi] at ho;cases ho;obtain ⟨b',c',T',vI,h1,h2,h3,h4⟩:=J.hp.var hi;rw [hb] at h1;cases h1;rw [hc] at h2;cases h2;simp only [RepObj];refine ⟨b,putA c o us,T,fz,hb,zfu (aI.1 hc).1,?_,mW⟩;rw [zdd];exact Reps.putL (ch.reps h3) o (ch.reps hr)
end
open Go
def AV.toD:AV->Option D
 | .d x=>some x
 | .nils k=>some (.sl k [])
 |_=>none
def toDs:List AV->Option (List D)
 | []=>some []
 |a::J=>match a.toD,toDs J with
  |some x,some xs=>some (x::xs)
  |_,_=>none
def zlz:List (List AV)->Option (List (List D))
 | []=>some []
 |a::J=>match toDs a,zlz J with
  |some x,some xs=>some (x::xs)
  |_,_=>none
def AV.tag (P:Program) (t:TypeId) (v:AV):AV:=
 match v with
 | .nils k=>(match (ty P t).td with
  | .slice e=> .nils (ty P e).size
  |_=> .nils k)
 |v=>v
section
variable {P : Program} {W : World} {E : Env} {h : AHeap} {X : Nat -> Prop}
def Rep.tag {a} {v} {t} (J:Rep W E h a v):Rep W E h (a.tag P t) v:=by
 unfold AV.tag;split
 .split<;>simpa only [Rep] using J
 .omega
def Rep.toD {a} {x} {v} (hr:Rep W E h a v) (J:a.toD=some x):RepD W (Xs E h) x v:=by
 cases a<;>simp only [AV.toD,aB,reduceCtorEq] at J
 .subst J;simpa only [Rep] using hr
 .subst J;simp only [Rep] at hr;simp only [RepD]
  grind
def Reps.toDs:∀ {aZ:List AV} {xs:List D} {vs:List Value},Reps W E h aZ vs->toDs aZ=some xs->RepDs W (Xs E h) xs vs
 | [],xs,vs,hr,J=>by simp only [Aw.toDs,aB] at J;subst J;simpa only [Reps,RepDs] using hr
 | a::aZ,xs,vs,hr,J=>by
  simp only [Aw.toDs] at J;split at J
  .rename_i x ys h1 h2;cases J;simp only [Reps] at hr;obtain ⟨v,r,rfl,h3,h4⟩:=hr;simp only [RepDs];exact ⟨v,r,rfl,h3.toD h1,Reps.toDs h4 h2⟩
  .cases J
def RepDs.set:∀ {aZ:List D} {vs:List Value},RepDs W X aZ vs->∀ {i:Nat} {a:D} {v:Value},RepD W X a v->RepDs W X (aZ.set i a) (vs.set i v)
 | [],_,J,i,a,v,_=>by simp only [RepDs] at J;subst J;simp [RepDs]
 |b::aZ,_,J,i,a,x,hx=>by
  simp only [RepDs] at J;refine' FW;cases i with
  |zero=>simp only [dh,RepDs];grind
  |succ i=>simp only [cI,RepDs];exact ⟨_,_,rfl,h2,RepDs.set h3 hx⟩
def RepDs.putL:∀ {cs:List D} {c:List Value},RepDs W X cs c->∀ (o:Nat) {vs:List D} {us:List Value},RepDs W X vs us->RepDs W X (putL cs o vs) (putL c o us)
 |cs,c,J,o,[],us,hu=>by simp only [RepDs] at hu;subst hu;exact J
 |cs,c,J,o,v::vs,us,hu=>by simp only [RepDs] at hu;obtain ⟨u,r,rfl,h1,h2⟩:=hu;exact RepDs.putL (J.set h1) (o+1) h2
def zn5 {α} :∀ (us cs:List α) (o k:Nat),o+us.length<=k->(putL cs o us).take k=putL (cs.take k) o us
 | [],cs,o,k,_=>rfl
 |u::us,cs,o,k,J=>by simp only [putL,aC] at J |-;rw [zn5 us _ _ _ fT,List.take_set]
def zn6 {α} :∀ (us cs:List α) (o k:Nat),k<=o->(putL cs o us).drop k=putL (cs.drop k) (o - k) us
 | [],cs,o,k,_=>rfl
 |u::us,cs,o,k,J=>by simp only [putL];rw [zn6 us _ _ _ fT,List.drop_set,U fT,show o+1 - k=o - k+1 by omega]
def zi9 {α} :∀ (us cs:List α) (o k:Nat),k<=o->(putL cs o us).take k=cs.take k
 | [],cs,o,k,_=>rfl
 |u::us,cs,o,k,J=>by simp only [putL];rw [zi9 us _ _ _ fT,dK fT]
def zja {α} :∀ (us cs:List α) (o k:Nat),o+us.length<=k->(putL cs o us).drop k=cs.drop k
 | [],cs,o,k,_=>rfl
 |u::us,cs,o,k,J=>by simp only [putL,aC] at J |-;rw [zja us _ _ _ fT,List.drop_set,aa fT]
def RepRows.put {k} :∀ {xs:List (List D)} {vs:List Value},RepRows W X k xs vs->∀ {r o:Nat} {ds:List D} {us:List Value},r<xs.length->o+us.length<=k->RepDs W X ds us->
  RepRows W X k (xs.set r (Aw.putL (xs.getD r []) o ds)) (Aw.putL vs (r*k+o) us)
 | [],vs,_,r,o,ds,us,hr,_,_=>fU
 |x::xs,vs,J,0,o,ds,us,_,ho,hd=>by
  simp only [RepRows,dh,List.getD_cons_zero,dj,bL] at J |-;refine ⟨by rw [zeS];grind,?_,?_⟩
  .rw [zn5 _ _ _ _ ho];exact J.2.1.putL o hd
  .rw [zja _ _ _ _ ho];grind
 | x::xs,vs,J,r+1,o,ds,us,hr,ho,hd=>by
  simp only [RepRows,cI,eB,aC] at J hr |-;refine ⟨J.1,?_,?_⟩
  .rw [zi9 _ _ _ _ fU];grind
  .rw [zn6 _ _ _ _ fU,show (r+1)*k+o - k=r*k+o by grind];exact RepRows.put J.2.2 fT ho hd
def zCa {w} {k} {i} {xs xs'} (hi:hget h i=some (.arr k xs)) (hl:xs'.length=xs.length) {b} (hb:E.O i=some b) ob:Chg E h w E (hset h i (.arr k xs')) (World.row w b ob) i where
 os:=rfl
 tape:=rfl
 output:=rfl
 size:=fZ
 envO:=λj e=>rfl
 envC:=λj e=>rfl
 M:=rfl
 N:=rfl
 hh:=λj e=>zS e
 gi:=by unfold GoesOn;rw [hi];exact ⟨xs',zi hi,fT,λ_=>⟨rfl,rfl⟩⟩
 blk:=λk J hn=>zeT fU
 new:=λk _ J=> .inl ⟨fU,J⟩
def zqi {cx} {s} {a} {w} (hs:Sat cx E s a w) {i k} {xs} (hi:hget s.h i=some (.arr k xs)) {r o} {ds} {us} (hd:RepDs w (Xs E s.h) ds us)
  (hr:r<xs.length) (J:o+us.length<=k) {b} {c} {T} {fz} (hb:E.O i=some b) (hc:w.heap[b]?=some (.cells c T fz)):
  Sat cx E { s with h:=hset s.h i (.arr k (xs.set r (Aw.putL (xs.getD r []) o ds))) } a (World.row w b (.cells (putA c (r*k+o) us) T fz))/\Evo cx.fl E s.h w E (hset s.h i (.arr k (xs.set r (Aw.putL (xs.getD r []) o ds)))) (World.row w b (.cells (putA c (r*k+o) us) T fz)):=by
 have ch:=zCa (E:=E) (w:=w) hi (xs':=xs.set r (Aw.putL (xs.getD r []) o ds)) fZ hb (.cells (putA c (r*k+o) us) T fz);refine ⟨ch.sat hs (λob J=>?_),ch.evo fU⟩;rw [zi hi] at J;cases J;have:=hs.hp.heap i _ hi;refine' Dk;rcases this with ⟨h0,_⟩|⟨b',c',T',vI,h1,h2,h3,h4,h5,h6⟩
 .grind
 rw [hb] at h1;cases h1;rw [hc] at h2;cases h2;refine .inr ⟨b,putA c (r*k+o) us,T,fz,hb,zfu (aI.1 hc).1,mW,fU,?_,mW⟩;rw [zdd];have pH:RepDs (World.row w b (.cells (putA c (r*k+o) us) T fz)) (Xs E (hset s.h i (.arr k (xs.set r (Aw.putL (xs.getD r []) o ds))))) ds us:=RepDs.step ch.hX ch.hK _ _ hd;exact RepRows.put (ch.rows h5) hr J pH
def zhM {cx} {s} {a} {w} (J:Sat cx E s a w) {k cap} {xs} {vs} (hr:RepRows w (Xs E s.h) k xs vs.toList) (hl:xs.length<=cap) (hz:vs.size=cap*k) T w' (hw:w'=w.alloc (.cells vs T)):
  Sat cx (E.set (fresh cx.fl s.h) (some w.heap.size) cap) { s with h:=(fresh cx.fl s.h,.arr k xs)::s.h } a w'/\Evo cx.fl E s.h w (E.set (fresh cx.fl s.h) (some w.heap.size) cap) ((fresh cx.fl s.h,.arr k xs)::s.h) w'/\
  Rep w' (E.set (fresh cx.fl s.h) (some w.heap.size) cap) ((fresh cx.fl s.h,.arr k xs)::s.h) (.osl (fresh cx.fl s.h) k xs.length 0 xs.length) (.slice (some ⟨w.heap.size,0,none⟩) xs.length cap):=by
 subst hw;have c:=ziC cx.fl J.hp (.cells vs T) (.arr k xs) cap;refine' D5
 .refine' DD;exact .inr ⟨w.heap.size,vs,T,(0,0),gM,zeb w _,vK,by simpa [Env.set] using hl,c.rows hr,pg⟩
 .refine' Fg;refine' Je
def zn7 {cx} {s} {a} {w} (hs:Sat cx E s a w) ob:Sat cx E s a (w.alloc ob)/\Evo cx.fl E s.h w E s.h (w.alloc ob)/\(∀x v,Rep w E s.h x v->Rep (w.alloc ob) E s.h x v):=by
 have hk:∀b,b<w.heap.size->(w.alloc ob).heap[b]?=w.heap[b]?:=λb J=>by
  show (w.heap.push ob)[b]?=_
  grind
 have aZ:Evo cx.fl E s.h w E s.h (w.alloc ob):=⟨rfl,rfl,rfl,fZ,λb J _ _=>hk b J,λ_ J=> .inl J,λ_ hm=>hm,λ_ hm=> .inl hm,rfl,λi _ hi=>⟨hi,GoesOn.refl E _ i⟩⟩
 have lE:∀x v,Rep w E s.h x v->Rep (w.alloc ob) E s.h x v:=λx v hr=>Rep.step fU fU x v (λj _=>GoesOn.refl E s.h j) hr;refine ⟨⟨λj g v hj=>?_,hs.nt,⟨λi o ho=>?_,hs.hp.inj,λb J=>?_,λb J=>?_,λb J=>?_⟩,⟨by have:=hs.base.1;simp;omega,hs.base.2⟩,?_,?_⟩,aZ,lE⟩
 .obtain ⟨x,h1,h2,h3⟩:=hs.slots j g v hj
  grind
 .have:=hs.hp.heap i o ho;have br:∀b,E.O i=some b->b<w.heap.size:=λb J=>(hs.hp.own b ⟨i,fU,J⟩).1;cases o with
  |var cs=>
   refine' Dk;refine' DJ;refine' Jg
  |tvar tt cs=>
   refine' Dk;refine' DJ;refine' Jg
  |arr k xs=>
   refine' Dk;refine' D6
   .grind
   .refine' Gj
  |buf tt xs=>
   refine' Dk
   grind
  |strit l p=>
   refine' Dk
   grind
  |omap es=>
   refine' Dk
   grind
 .have:=hs.hp.own b J
  grind
 .have:=hs.hp.mlt b J;grind
 .have:=hs.hp.nlt b J;grind
 .exact hs.marks.step fU fU
 .exact cx.stab _ _ _ _ _ _ _ (λb J _=>hk b J) fU (λb J=>by have:=J.elim (λh=>(hs.hp.own b h).1) hs.marks.lt;grind) fZ rfl rfl rfl hs.ghost
def fillL (pl:Nat->Option (Nat×Nat)):List AV->List (Nat×AV)->Prop×List AV
 |cs,[]=>(True,cs)
 | cs,(i,v)::r=>match pl i with
  |some (off,J)=>let q:=fillL pl (Aw.putL cs off v.cells) r
   (v.cells.length=J/\v.cellsOk=true/\off+J<=cs.length/\q.1,q.2)
  |none=>(False,cs)
def zlA off:∀ (l:List Value) (j:Nat) (c:Array Value),(l.zipIdx j).foldl (λ(cs:Array Value) (p:Value×Nat)=>cs.setIfInBounds (off+p.2) p.1) c=putA c (off+j) l
 | [],j,c=>rfl
 |v::l,j,c=>by simp only [List.zipIdx_cons,cA,putA];exact zlA off l (j+1) _
def zmv {pl} :∀ (parts:List (Nat×AV)) (vals:List (Nat×Value)) (cs:List AV) (c:Array Value),(fillL pl cs parts).1→Reps W E h cs c.toList→
    (parts.length=vals.length∧∀ (j i:Nat) (x:AV),parts[j]?=some (i,x)→∃v,vals[j]?=some (i,v)∧Rep W E h x v)→∃c',Instr.fill pl c vals=some c'∧Reps W E h (fillL pl cs parts).2 c'.toList
  | [],vals,cs,c,_,hr,hl=>by
    have:vals= []:=by
      grind
    subst this
    exact ⟨c,rfl,hr⟩
  |(i,x)::parts,[],cs,c,_,_,hl=>fU
  | (i, x)::parts,(i',v)::vals,cs,c,hv,hr,hl=>by
    obtain ⟨v',h1,h2⟩:=hl.2 0 i x rfl
    simp only [eC,aB,aJ] at h1
    obtain ⟨rfl,rfl⟩:=h1
    simp only [fillL] at hv ⊢
    cases hp:pl i' with
    |none=>grind
    | some p=>
      obtain ⟨off,sz⟩:=p
      simp only [hp] at hv ⊢
      obtain ⟨g1,g2,g3,g4⟩:=hv
      obtain ⟨g5,g6⟩:=h2.cells g2
      have e1:=Reps.length g5
      have e2:=Reps.length hr
      have hsz:v.cells.size=sz:=fU
      obtain ⟨c',q1,q2⟩:=zmv parts vals (Aw.putL cs off x.cells) (putA c off v.cells.toList) g4 (by rw [zdd];exact hr.putL off g5)
        ⟨fU,fun j a y hj=>hl.2 (j+1) a y fU⟩
      refine ⟨c',?_,q2⟩
      have hcs:c.size=cs.length:=fU
      simp only [Instr.fill,hp,hsz,ne_eq,dJ,decide_false,cB]
      rw [U fU]
      rw [← q1]
      congr 1
      have:=zlA off v.cells.toList 0 c
      rw [cJ] at this
      rw [← this,← Array.toList_zipIdx,Array.foldl_toList]
end
open Go
section
variable {P : Program} {W : World} {E : Env} {h : AHeap}
def zCb {w} {i} {es es'} (hi:hget h i=some (.omap es)) {b} (hb:E.O i=some b) ob:Chg E h w E (hset h i (.omap es')) (World.row w b ob) i where
 os:=rfl
 tape:=rfl
 output:=rfl
 size:=fZ
 envO:=λj e=>rfl
 envC:=λj e=>rfl
 M:=rfl
 N:=rfl
 hh:=λj e=>zS e
 gi:=by unfold GoesOn;rw [hi];exact ⟨rfl,es',zi hi⟩
 blk:=λk J hn=>zeT fU
 new:=λk _ J=> .inl ⟨fU,J⟩
def zCc {cx} {s} {a} {w} (hs:Sat cx E s a w) {i} {es es'} (hi:hget s.h i=some (.omap es)) {b} (J:E.O i=some b) {mes qs} {c c'} (hc:w.heap[b]?=some (.map mes c)) (ho:esOk es' qs):
  Sat cx E { s with h:=hset s.h i (.omap es') } a (World.row w b (.map qs c'))/\Evo cx.fl E s.h w E (hset s.h i (.omap es')) (World.row w b (.map qs c')):=by have ch:=zCb (E:=E) (w:=w) hi (es':=es') J (.map qs c');refine ⟨ch.sat hs (λob ec=>?_),ch.evo fU⟩;rw [zi hi] at ec;cases ec;simp only [RepObj];exact ⟨b,qs,c',J,zfu (aI.1 hc).1,ho⟩
def zDG {w} {i} {l} {p p'} (hi:hget h i=some (.strit l p)) {b} (hb:E.O i=some b) ob:Chg E h w E (hset h i (.strit l p')) (World.row w b ob) i where
 os:=rfl
 tape:=rfl
 output:=rfl
 size:=fZ
 envO:=λj e=>rfl
 envC:=λj e=>rfl
 M:=rfl
 N:=rfl
 hh:=λj e=>zS e
 gi:=by unfold GoesOn;rw [hi];exact ⟨rfl,p',zi hi⟩
 blk:=λj J hn=>zeT fU
 new:=λj _ J=> .inl ⟨fU,J⟩
def zDH {cx} {s} {a} {w} (hs:Sat cx E s a w) {i} {l} {p p'} (hi:hget s.h i=some (.strit l p)) {b} (hb:E.O i=some b) (J:b<w.heap.size):
  Sat cx E { s with h:=hset s.h i (.strit l p') } a (World.row w b (.stringIter ⟨l.toArray⟩ p'))/\Evo cx.fl E s.h w E (hset s.h i (.strit l p')) (World.row w b (.stringIter ⟨l.toArray⟩ p')):=by have ch:=zDG (E:=E) (w:=w) hi (p':=p') hb (.stringIter ⟨l.toArray⟩ p');refine ⟨ch.sat hs (λob ec=>?_),ch.evo fU⟩;rw [zi hi] at ec;cases ec;simp only [RepObj];exact ⟨b,hb,zfu J⟩
def ztT {cx} {s} {a} {w} (J:Sat cx E s a w) l:
  Sat cx (E.set (fresh cx.fl s.h) (some w.heap.size) 0) { s with h:=(fresh cx.fl s.h,.strit l 0)::s.h } a (w.alloc (.stringIter ⟨l.toArray⟩ 0))/\Evo cx.fl E s.h w (E.set (fresh cx.fl s.h) (some w.heap.size) 0) ((fresh cx.fl s.h,.strit l 0)::s.h) (w.alloc (.stringIter ⟨l.toArray⟩ 0))/\
  Rep (w.alloc (.stringIter ⟨l.toArray⟩ 0)) (E.set (fresh cx.fl s.h) (some w.heap.size) 0) ((fresh cx.fl s.h,.strit l 0)::s.h) (.itr (fresh cx.fl s.h)) (.pointer (some ⟨w.heap.size,0,none⟩)):=by
 have c:=ziC cx.fl J.hp (.stringIter ⟨l.toArray⟩ 0) (.strit l 0) 0;refine' D5
 .refine' DD;exact ⟨w.heap.size,gM,zeb w _⟩
 .refine' Fg;exact ⟨_,l,0,iJ,gM,rfl⟩
def zqj {cx} {s} {a} {w} (J:Sat cx E s a w):
  Sat cx (E.set (fresh cx.fl s.h) (some w.heap.size) 0) { s with h:=(fresh cx.fl s.h,.omap [])::s.h } a (w.alloc (.map #[] 0))/\Evo cx.fl E s.h w (E.set (fresh cx.fl s.h) (some w.heap.size) 0) ((fresh cx.fl s.h,.omap [])::s.h) (w.alloc (.map #[] 0))/\
  Rep (w.alloc (.map #[] 0)) (E.set (fresh cx.fl s.h) (some w.heap.size) 0) ((fresh cx.fl s.h,.omap [])::s.h) (.map (fresh cx.fl s.h)) (.map (some w.heap.size)):=by
 have c:=ziC cx.fl J.hp (.map #[] 0) (.omap []) 0;refine' D5
 .refine' DD;exact ⟨w.heap.size,#[],0,gM,zeb w _,rfl,rfl⟩
 .refine' Fg;exact ⟨_,[],iJ,gM,rfl⟩
def zzh {es} {mes} (J:esOk es mes) {k v} (hk:k.scal=true) (hv:v.scal=true) born:
  esOk (mput k v es) (match mix k es with|some q=>mes.modify q.1 (λe=> { e with key:=valD k,val:=valD v })|none=>mes.push { key:=valD k,val:=valD v,born:=born }):=by
 rw [zss];cases hm:mix k es with
 |none=>
  refine ⟨by simp [J.1,hk,hv],?_⟩;simp [J.2]
 | some q=>
  obtain ⟨p,h1,h2,h3⟩:=zst k es q hm;refine ⟨?_,?_⟩
  .simp only [bw] at*;intro x hx;rcases dL hx with hx|rfl
   .exact bw.1 J.1 x hx
   .grind
  .apply dk;intro j;have hj:=congrArg (λl=>l[j]?) J.2
   grind
def zv4 {td} {k x} (J:alike td k=true) (hx:alike td x=true) (h:sameS k x=true):valD x=valD k:=by
 cases td<;>cases k<;>cases x<;>simp_all [alike,sameS,valD]
def zn8 {td} {k} (J:alike td k=true):Instr.sameBits 10000 (valD k) (valD k)=true:=by
 cases td<;>cases k<;>first|(cases J;done)|skip
 all_goals simp [Instr.sameBits,valD,zn2]
def zlB {b} {mes} {c} {w} (J:w.heap[b]?=some (.map mes c)):(getObj b).run P w= .ok (.map mes c) w:=by simp [getObj,Sem.run,J]
def ziD {b} {mes} {c} {w} (J:w.heap[b]?=some (.map mes c)) o:(setObj b o).run P w= .ok () (World.row w b o):=by
 simp [setObj,Sem.run,J,World.row]
def zlg {t kt et:TypeId} (ht:(ty P t).td= .map kt et) {b} {es} {mes} {c} {w} (hb:w.heap[b]?=some (.map mes c)) (ho:esOk es mes) {k v} (J:alike (ty P kt).td k=true) (ha:(es.all λp=>alike (ty P kt).td p.1)=true):
  ∃c',(Instr.mapUpdate t (.map (some b)) (valD k) (valD v)).run P w= .ok () (World.row w b (.map (match mix k es with|some q=>mes.modify q.1 (λe=> { e with key:=valD k,val:=valD v })|none=>mes.push { key:=valD k,val:=valD v,born:=c }) c')):=by
 unfold Instr.mapUpdate;simp only [ai,run_underlying (zmt ht),ah,zlB hb,zeA J,zi8 J ho ha];cases hm:mix k es with
 |none=>
  refine ⟨c+1,?_⟩;simp only [cd,ziD hb]
 | some q=>
  obtain ⟨p,h1,h2,h3⟩:=zst k es q hm;refine ⟨c,?_⟩;have hj:=congrArg (λl=>l[q.1]?) ho.2;simp only [cT,ff,h1,cz] at hj;cases tf:mes[q.1]? with
  |none=>grind
  |some e=>
   rw [tf] at hj;simp only [cz,aB,aJ] at hj;have hp:=bw.1 ha p (ay h1);have BP:e.key=valD k:=by rw [hj.1];exact zv4 J hp h2
   have hg:((mes[q.1]?).map (·.key)).getD (valD k)=valD k:=fU;simp only [cz,hg,Instr.keyThatStays,zn8 J,av];rw [ai,ar,ah,ziD hb]
end
end Go.Aw
