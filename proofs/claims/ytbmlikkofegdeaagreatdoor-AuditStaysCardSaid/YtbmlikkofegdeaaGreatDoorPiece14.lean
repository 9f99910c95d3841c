/-
  Parts of the proof: AwDraw, AwDraw2, AwDraw3, AwDraw4, AwDraw5 (short names; the readable texts lie in the repo, under wip).
-/
import Derived.Test.YtbmlikkofegdeaaGreatDoorPiece9
import Derived.OrdersIn
set_option maxRecDepth 100000
set_option maxHeartbeats 2000000
set_option linter.unusedSimpArgs false
set_option linter.unusedVariables false
namespace Go.Aw
open Go
def za1:Op->List Operand
 | .move x=> [x]
 | .assign x=> [x]
 | .pick c a b=> [c,a,b]
 | .binOp _ _ x y _=> [x,y]
 | .unOp _ _ x=> [x]
 | .convert _ _ x=> [x]
 | .makeInterface _ x=> [x]
 | .makeFunc _ fs cs=>(fs++cs).toList
 | .field _ x _=> [x]
 | .fieldAddr _ x _=> [x]
 | .indexAddr _ x y=> [x,y]
 | .index _ x y=> [x,y]
 | .slice _ x lo hi mx=>x::(lo.toList++hi.toList++mx.toList)
 | .load _ x=> [x]
 | .nilCheck x=> [x]
 | .range _ x=> [x]
 | .next x _=> [x]
 | .extract x _=> [x]
 | .call c=>(match c.callee with| .value f=> [f]|_=> [])++c.args.toList
 | .box _ x=> [x]
 | .build _ parts=>parts.toList.map (·.2)
 | .buildSlice _ _ parts=>parts.toList.map (·.2)
 | .store _ x y=> [x,y]
 | .makeSlice _ x y=> [x,y]
 | .lookup _ x y _=> [x,y]
 | .mapUpdate _ x y z=> [x,y,z]
 |_=> []
def detOp (P:Program):Op->Bool
 | .binOp _ _ _ _ _=>false
 | .lookup _ _ _ _=>false
 | .makeMap _ _=>false
 | .range _ _=>false
 | .next _ _=>false
 | .convert _ d _=>(match (ty P d).td with| .slice _=>false|_=>true)
 |_=>true
def isEff:Op->Bool
 | .alloc _=>true
 | .makeSlice _ _ _=>true
 | .call c=>(match c.callee with| .builtin .append=>true| .builtin .copy=>true| .builtin .clear=>true|_=>false)
 | .box _ _=>true
 | .buildSlice _ _ _=>true
 | .store _ _ _=>true
 | .mapUpdate _ _ _ _=>true
 |_=>false
def fop (cx:Cx) (tab:Tab) (s:AS) (G:Bool) (o:Oper) (R:Bool->AV->AHeap->Prop):Prop:=
 match o.op with
 | .move x=>known s x=true/\R (G&&(s.ev x).1) ((s.ev x).2.tag cx.P o.type) s.h
 | .assign x=>known s x=true/\R (G&&(s.ev x).1) ((s.ev x).2.tag cx.P o.type) s.h
 | .pick c a b=>(match s.ev c with
  |(gc,.d (.bool c))=>(G=true->gc=true/\(c=true->(s.ev a).1=true/\(s.ev a).2.isB=true)/\(c=false->(s.ev b).1=true/\(s.ev b).2.isB=true))/\R G (.d (.bool (bif c then (s.ev a).2.toB else (s.ev b).2.toB))) s.h
  |_=>False)
 | .call c=>if isVal cx.P (.call c) then (G=true->(aval cx.P s (.call c)).1)/\R G (aval cx.P s (.call c)).2 s.h else
  (match zbh cx.P s c with
  |some (f,args,vc)=>(match tab f (args.map (frz 9 s.h)) with
   |some (pre,r)=>(G=true->vc/\pre/\(r.scal=true\/AV.idsL args= []))/\R G r s.h
   |none=>False)
  |none=>G=true/\aeff cx.fl cx.P s (.call c) (λr h'=>R true r h'))
 |op=>if isVal cx.P op then (G=true->(aval cx.P s op).1)/\R G (aval cx.P s op).2 s.h else G=true/\detOp cx.P op=true/\aeff cx.fl cx.P s op (λr h'=>R true r h')
section
variable {cx : Cx} {tab : Tab} {P : Program} {s s' : AS}
theorem zp9 {fl:Nat} {op:Op} {K:AV→AHeap→Prop} (hdet:detOp P op=true) (h:zao fl P s op K):∃r h',K r h'∧(∀K',K' r h'→zao fl P s op K')∧(isEff op=false→h'=s.h):=by
 unfold zao at h
 split at h
 ·rename_i src dt x
  split at h
  ·rename_i e hs hd
   split at h
   ·rename_i g l hx
    exact ⟨_,_,h.2.2,fun K' hk=>by unfold zao;dsimp only;rw [hs,hd];dsimp only;rw [hx];exact ⟨h.1,h.2.1,hk⟩,fun e=>by simp [detOp,hd] at hdet⟩
   ·exact h.elim
  ·rename_i e hs hd
   split at h
   ·rename_i rows hr
    exact ⟨_,_,h.2.2.2,fun K' hk=>by unfold zao;dsimp only;rw [hs,hd];dsimp only;rw [hr];exact ⟨h.1,h.2.1,h.2.2.1,hk⟩,fun _=>rfl⟩
   ·exact h.elim
  ·exact h.elim
 ·cases hdet
 ·rename_i t l c
  split at h
  ·rename_i e gl n gc m ht hl hc
   obtain ⟨h1,h2,h3,h4,h5,h6,h7,h8,h9,h⟩:=h
   split at h
   ·rename_i z hz
    exact ⟨_,_,h,fun K' hk=>by unfold zao;dsimp only;rw [ht,hl,hc];dsimp only;rw [hz];exact ⟨h1,h2,h3,h4,h5,h6,h7,h8,h9,hk⟩,fun e=>by cases e⟩
   ·exact h.elim
  ·exact h.elim
 ·cases hdet
 ·cases hdet
 ·cases hdet
 ·rename_i t m k v
  split at h
  ·rename_i kt et gm i gk kd gv vd ht hm hk hv
   obtain ⟨h1,h2,h3,h4,h⟩:=h
   split at h
   ·rename_i es hes
    exact ⟨_,_,h.2.2,fun K' hk'=>by unfold zao;dsimp only;rw [ht,hm,hk,hv];dsimp only;refine ⟨h1,h2,h3,h4,?_⟩;rw [hes];exact ⟨h.1,h.2.1,hk'⟩,fun e=>by cases e⟩
   ·exact h.elim
  ·exact h.elim
 ·rename_i c
  split at h
  ·rename_i hcal
   split at h
   ·rename_i x y t u ha ht
    split at h
    ·rename_i e hte
     obtain ⟨h1,h2,h3,h4,h5,h⟩:=h
     split at h
     ·rename_i rows hr
      split at h
      ·rename_i k hx
       exact ⟨_,_,h.2.2,fun K' hk=>by unfold zao;dsimp only;rw [hcal];dsimp only;rw [ha,ht];dsimp only;rw [hte];refine ⟨h1,h2,h3,h4,h5,?_⟩;rw [hr];dsimp only;rw [hx];exact ⟨h.1,h.2.1,hk⟩,fun e=>by simp [isEff,hcal] at e⟩
      ·rename_i i k m off len hx
       split at h
       ·rename_i k' xs hi
        obtain ⟨g1,g2,g3,g4,g5,g6,g7,h⟩:=h
        exact ⟨_,_,h,fun K' hk=>by unfold zao;dsimp only;rw [hcal];dsimp only;rw [ha,ht];dsimp only;rw [hte];refine ⟨h1,h2,h3,h4,h5,?_⟩;rw [hr];dsimp only;rw [hx];dsimp only;rw [hi];exact ⟨g1,g2,g3,g4,g5,g6,g7,hk⟩,fun e=>by simp [isEff,hcal] at e⟩
       ·exact h.elim
      ·exact h.elim
     ·exact h.elim
    ·exact h.elim
   ·exact h.elim
  ·rename_i hcal
   split at h
   ·rename_i x y t u ha ht
    split at h
    ·rename_i e hte
     obtain ⟨h1,h2,h3,h4,h⟩:=h
     split at h
     ·rename_i rows hr
      split at h
      ·rename_i i k m off len hx
       split at h
       ·rename_i k' xs hi
        obtain ⟨g1,g2,g3,g4,g5,h⟩:=h
        exact ⟨_,_,h,fun K' hk=>by unfold zao;dsimp only;rw [hcal];dsimp only;rw [ha,ht];dsimp only;rw [hte];refine ⟨h1,h2,h3,h4,?_⟩;rw [hr];dsimp only;rw [hx];dsimp only;rw [hi];exact ⟨g1,g2,g3,g4,g5,hk⟩,fun e=>by simp [isEff,hcal] at e⟩
       ·exact h.elim
      ·exact h.elim
     ·exact h.elim
    ·exact h.elim
   ·exact h.elim
  ·rename_i hcal
   split at h
   ·rename_i x t ha ht
    split at h
    ·rename_i e hte
     obtain ⟨h1,h2,h3,h4,h⟩:=h
     split at h
     ·rename_i z hz
      split at h
      ·rename_i i k m off len hx
       split at h
       ·rename_i k' xs hi
        obtain ⟨g1,g2,g3,g4,h⟩:=h
        exact ⟨_,_,h,fun K' hk=>by unfold zao;dsimp only;rw [hcal];dsimp only;rw [ha,ht];dsimp only;rw [hte];refine ⟨h1,h2,h3,h4,?_⟩;rw [hz];dsimp only;rw [hx];dsimp only;rw [hi];exact ⟨g1,g2,g3,g4,hk⟩,fun e=>by simp [isEff,hcal] at e⟩
       ·exact h.elim
      ·exact h.elim
     ·exact h.elim
    ·exact h.elim
   ·exact h.elim
  ·exact h.elim
 ·exact h.elim
theorem zpc {fl:Nat} {op:Op} {K:AV->AHeap->Prop} (hdet:detOp P op=true) (h:aeff fl P s op K):∃r h',K r h'/\(∀K',K' r h'->aeff fl P s op K')/\(isEff op=false->h'=s.h):=by
 unfold aeff at h;split at h
 ·exact ⟨_,_,h.2,λK' hk=>by unfold aeff;exact ⟨h.1,hk⟩,λe=>by cases e⟩
 ·exact ⟨_,_,h.2.2,λK' hk=>by unfold aeff;exact ⟨h.1,h.2.1,hk⟩,λe=>by cases e⟩
 ·rename_i t parts;obtain ⟨h1,h2,h3⟩:=h;split at h3
  ·rename_i fs hf;exact ⟨_,_,h3.2.2,λK' hk=>by unfold aeff;dsimp only;rw [hf];exact ⟨h1,h2,h3.1,h3.2.1,hk⟩,λ_=>rfl⟩
  ·rename_i n e hf;exact ⟨_,_,h3.2.2,λK' hk=>by unfold aeff;dsimp only;rw [hf];exact ⟨h1,h2,h3.1,h3.2.1,hk⟩,λ_=>rfl⟩
  ·exact h3.elim
 ·rename_i t len parts;split at h
  ·rename_i e hf;obtain ⟨h1,h2,h3,h4,h5,h6,h7⟩:=h;split at h7
   ·rename_i ds hds;exact ⟨_,_,h7,λK' hk=>by unfold aeff;dsimp only;rw [hf];refine ⟨h1,h2,h3,h4,h5,h6,?_⟩;rw [hds];exact hk,λe=>by cases e⟩
   ·rename_i hds;exact ⟨_,_,h7.2,λK' hk=>by unfold aeff;dsimp only;rw [hf];refine ⟨h1,h2,h3,h4,h5,h6,?_⟩;rw [hds];exact ⟨h7.1,hk⟩,λe=>by cases e⟩
  ·exact h.elim
 ·rename_i t x y;obtain ⟨h1,h2,h3,h4,h5,h6⟩:=h;split at h6
  ·rename_i i o hx;split at h6
   ·rename_i cs hi;exact ⟨_,_,h6.2,λK' hk=>by unfold aeff;dsimp only;refine ⟨h1,h2,h3,h4,h5,?_⟩;rw [hx];dsimp only;rw [hi];exact ⟨h6.1,hk⟩,λe=>by cases e⟩
   ·exact h6.elim
  ·rename_i i o hx;split at h6
   ·rename_i tt cs hi;exact ⟨_,_,h6.2,λK' hk=>by unfold aeff;dsimp only;refine ⟨h1,h2,h3,h4,h5,?_⟩;rw [hx];dsimp only;rw [hi];exact ⟨h6.1,hk⟩,λe=>by cases e⟩
   ·exact h6.elim
  ·rename_i i n k r o hx;split at h6
   ·rename_i k' xs hi;obtain ⟨g1,g2,g3,g4,g5⟩:=h6;split at g5
    ·rename_i ds hds;exact ⟨_,_,g5,λK' hk=>by unfold aeff;dsimp only;refine ⟨h1,h2,h3,h4,h5,?_⟩;rw [hx];dsimp only;rw [hi];refine ⟨g1,g2,g3,g4,?_⟩;rw [hds];exact hk,λe=>by cases e⟩
    ·exact g5.elim
   ·exact h6.elim
  ·exact h6.elim
 ·rename_i op n1 n2 n3 n4 n5;obtain ⟨r,h',q1,q2,q3⟩:=zp9 hdet h;refine ⟨r,h',q1,λK' hk=>?_,q3⟩;have:=q2 K' hk;unfold aeff;split
  ·rename_i t;exact (n1 t rfl).elim
  ·rename_i t x;exact (n2 t x rfl).elim
  ·rename_i t x;exact (n3 t x rfl).elim
  ·rename_i t x y;exact (n4 t x y rfl).elim
  ·rename_i t x y;exact (n5 t x y rfl).elim
  ·exact this
theorem z8 {G:Bool} {o:Oper} {R:Bool->AV->AHeap->Prop} (n1:∀x,o.op= .move x->False) (n2:∀x,o.op= .assign x->False) (n3:∀x y z,o.op= .pick x y z->False) (n4:∀c,o.op= .call c->False):
  fop cx tab s G o R↔(if isVal cx.P o.op=true then (G=true->(aval cx.P s o.op).1)/\R G (aval cx.P s o.op).2 s.h else G=true/\detOp cx.P o.op=true/\aeff cx.fl cx.P s o.op (λr h'=>R true r h')):=by
 unfold fop;split
 ·rename_i x ho;exact (n1 x ho).elim
 ·rename_i x ho;exact (n2 x ho).elim
 ·rename_i x y z ho;exact (n3 x y z ho).elim
 ·rename_i x ho;exact (n4 x ho).elim
 ·exact Iff.rfl
theorem zwJ {G:Bool} {o:Oper} {R:Bool->AV->AHeap->Prop} (h:fop cx tab s G o R):∃g v h',R g v h'/\(∀R':Bool->AV->AHeap->Prop,R' g v h'->fop cx tab s G o R')/\(isEff o.op=false->h'=s.h):=by
 unfold fop at h;split at h
 ·rename_i x ho;exact ⟨_,_,_,h.2,λR' hk=>by unfold fop;rw [ho];exact ⟨h.1,hk⟩,λ_=>rfl⟩
 ·rename_i x ho;exact ⟨_,_,_,h.2,λR' hk=>by unfold fop;rw [ho];exact ⟨h.1,hk⟩,λ_=>rfl⟩
 ·rename_i c a b ho;split at h
  ·rename_i g1 c1 h1;exact ⟨_,_,_,h.2,λR' hk=>by unfold fop;rw [ho];dsimp only;rw [h1];exact ⟨h.1,hk⟩,λ_=>rfl⟩
  ·exact h.elim
 ·rename_i c ho;split at h
  ·rename_i hv;exact ⟨_,_,_,h.2,λR' hk=>by unfold fop;rw [ho];dsimp only;rw [if_pos hv];exact ⟨h.1,hk⟩,λ_=>rfl⟩
  ·rename_i hv;split at h
   ·rename_i f args vc hc;split at h
    ·rename_i pre r ht;exact ⟨_,_,_,h.2,λR' hk=>by unfold fop;rw [ho];dsimp only;rw [if_neg hv,hc];dsimp only;rw [ht];exact ⟨h.1,hk⟩,λ_=>rfl⟩
    ·exact h.elim
   ·rename_i hc;obtain ⟨rfl,h⟩:=h;obtain ⟨r,h',q1,q2,q3⟩:=zpc rfl h;exact ⟨true,r,h',q1,λR' hk=>by unfold fop;rw [ho];dsimp only;rw [if_neg hv,hc];exact ⟨rfl,q2 _ hk⟩,by rw [ho];exact q3⟩
 ·rename_i n1 n2 n3 n4;split at h
  ·rename_i hv;refine ⟨_,_,_,h.2,λR' hk=>?_,λ_=>rfl⟩;unfold fop;split
   ·rename_i x ho;exact (n1 x ho).elim
   ·rename_i x ho;exact (n2 x ho).elim
   ·rename_i x y z ho;exact (n3 x y z ho).elim
   ·rename_i x ho;exact (n4 x ho).elim
   ·rw [if_pos hv];exact ⟨h.1,hk⟩
  ·rename_i hv;obtain ⟨rfl,hdt,h⟩:=h;obtain ⟨r,h',q1,q2,q3⟩:=zpc hdt h;refine ⟨true,r,h',q1,λR' hk=>?_,q3⟩;unfold fop;split
   ·rename_i x ho;exact (n1 x ho).elim
   ·rename_i x ho;exact (n2 x ho).elim
   ·rename_i x y z ho;exact (n3 x y z ho).elim
   ·rename_i x ho;exact (n4 x ho).elim
   ·rw [if_neg hv];exact ⟨rfl,hdt,q2 _ hk⟩
theorem zum {G:Bool} {o:Oper} {K:AS->Prop} (hd:dstOk cx.nt o.dst) (h:fop cx tab s G o (λg v h'=>K ({ s with h:=h' }.put o.dst g v))):aopT cx tab G o K s:=by
 unfold fop at h;split at h
 ·rename_i x ho;unfold aopT;rw [ho];dsimp only;rw [if_pos (show zdQ cx.P _=true from rfl)];unfold aop;rw [ho];exact ⟨hd,h⟩
 ·rename_i x ho;unfold aopT;rw [ho];dsimp only;rw [if_pos (show zdQ cx.P _=true from rfl)];unfold aop;rw [ho];exact ⟨hd,h⟩
 ·rename_i c a b ho;unfold aopT;rw [ho];dsimp only;rw [if_pos (show zdQ cx.P _=true from rfl)];unfold aop;rw [ho];refine ⟨hd,?_⟩;dsimp only;split at h
  ·rename_i g1 c1 h1;rw [h1];exact h
  ·exact h.elim
 ·rename_i c ho;unfold aopT;rw [ho];dsimp only;split at h
  ·rename_i hv;rw [if_pos hv];unfold aop;rw [ho];dsimp only;rw [if_pos hv];exact ⟨hd,h⟩
  ·rename_i hv;rw [if_neg hv];split at h
   ·rename_i f args vc hc;rw [hc];dsimp only;split at h
    ·rename_i pre r ht;rw [ht];exact ⟨hd,h⟩
    ·exact h.elim
   ·rename_i hc;rw [hc];obtain ⟨rfl,h⟩:=h;refine ⟨hd,?_⟩;rw [if_pos rfl];unfold aop1;rw [ho];dsimp only;rw [if_neg hv,hc];exact h
 ·rename_i n1 n2 n3 n4
  have hq:zdQ cx.P o.op=isVal cx.P o.op:=by
   unfold zdQ;split
   ·rename_i x ho;exact (n1 x ho).elim
   ·rename_i x ho;exact (n2 x ho).elim
   ·rename_i x y z ho;exact (n3 x y z ho).elim
   ·rfl
  have e1:aopT cx tab G o K s=if zdQ cx.P o.op then aop cx G o K s else aopS cx G o K s:=by
   unfold aopT;split
   ·rename_i x ho;exact (n4 x ho).elim
   ·rfl
  rw [e1,hq];split at h
  ·rename_i hv;rw [if_pos hv];refine ⟨hd,?_⟩;split
   ·rename_i x ho;exact (n1 x ho).elim
   ·rename_i x ho;exact (n2 x ho).elim
   ·rename_i x y z ho;exact (n3 x y z ho).elim
   ·rw [if_pos hv];exact h
  ·rename_i hv;rw [if_neg hv];obtain ⟨rfl, -,h⟩:=h;refine ⟨hd,?_⟩;rw [if_pos rfl];unfold aop1;split
   ·rename_i x ho;exact (n1 x ho).elim
   ·rename_i x ho;exact (n2 x ho).elim
   ·rename_i x y z ho;exact (n3 x y z ho).elim
   ·rename_i x ho;exact (n4 x ho).elim
   ·rw [if_neg hv];exact h
theorem zyc {i:Nat} (hh:s.h=s'.h):s.esOf i=s'.esOf i:=by unfold AS.esOf;rw [hh]
theorem zqa {t:TypeId} {x y:AV} {ok:Bool} (hh:s.h=s'.h):zdq P s t x y ok=zdq P s' t x y ok:=by unfold zdq AS.esOf;rw [hh]
theorem zun {t:TypeId} {x:AV} (hh:s.h=s'.h):zea P s t x=zea P s' t x:=by unfold zea;rw [hh]
theorem zkU {t:TypeId} {x:AV} {f:Nat} (hh:s.h=s'.h):zaH P s t x f=zaH P s' t x f:=by unfold zaH AS.cur;rw [hh]
theorem zkV {t:TypeId} {x y:AV} (hh:s.h=s'.h):zaI P s t x y=zaI P s' t x y:=by unfold zaI AS.cur;rw [hh]
theorem zwK {t:TypeId} {x:AV} (hh:s.h=s'.h):avLen P s t x=avLen P s' t x:=by unfold avLen AS.cur;rw [hh]
theorem bnd_e {x:Option Operand} {d:Int} (he:∀y∈x.toList,s.ev y=s'.ev y):s.bnd x d=s'.bnd x d:=by
 cases x with
 |none=>rfl
 |some y=>simp only [AS.bnd,he y (by simp)]
theorem all_e {l:List Operand} (he:∀y∈l,s.ev y=s'.ev y):(l.all λx=>(s.ev x).1)=l.all λx=>(s'.ev x).1:=by
 induction l with
 |nil=>rfl
 |cons a l ih=>simp only [List.all_cons,he a (by simp),ih (λy hy=>he y (by simp [hy]))]
theorem map_e {l:List Operand} (he:∀y∈l,s.ev y=s'.ev y):(l.map λx=>(s.ev x).2)=l.map λx=>(s'.ev x).2:=List.map_congr_left λy hy=>by rw [he y hy]
theorem zip_e {l:List Operand} (he:∀y∈l,s.ev y=s'.ev y) (ts:List TypeId):((l.zip ts).map λp=>(s.ev p.1).2.tag P p.2)=(l.zip ts).map λp=>(s'.ev p.1).2.tag P p.2:=
 List.map_congr_left λp hp=>by rw [he p.1 (List.of_mem_zip hp).1]
theorem zwa {l:List (Nat×Operand)} (he:∀y∈l.map (·.2),s.ev y=s'.ev y):(l.all λp=>(s.ev p.2).1)=l.all λp=>(s'.ev p.2).1:=by
 induction l with
 |nil=>rfl
 |cons a l ih=>simp only [List.all_cons,he a.2 (by simp),ih (λy hy=>he y (by simp only [List.map_cons,List.mem_cons];exact .inr hy))]
theorem zwb {l:List (Nat×Operand)} (he:∀y∈l.map (·.2),s.ev y=s'.ev y) (f:Nat->TypeId):(l.map λp=>(p.1,((s.ev p.2).2.tag P (f p.1))))=l.map λp=>(p.1,((s'.ev p.2).2.tag P (f p.1))):=
 List.map_congr_left λp hp=>by rw [he p.2 (List.mem_map.2 ⟨p,hp,rfl⟩)]
end
open Go
section
variable {cx : Cx} {tab : Tab} {P : Program} {s s' : AS}
theorem zrW {t:TypeId} {x:AV} {lo hi mx:Option Operand} (hl:∀y∈lo.toList,s.ev y=s'.ev y) (hhi:∀y∈hi.toList,s.ev y=s'.ev y) (hm:∀y∈mx.toList,s.ev y=s'.ev y) (hh:s.h=s'.h):zdj P s t x lo hi mx=zdj P s' t x lo hi mx:=by unfold zdj;simp only [bnd_e hl,bnd_e hhi,bnd_e hm,AS.cur,hh]
theorem zuo {c:Call} (he:∀y∈c.args.toList,s.ev y=s'.ev y) (hh:s.h=s'.h):zfi P s c=zfi P s' c:=by
 have hm:c.args.toList.map s.ev=c.args.toList.map s'.ev:=List.map_congr_left he;unfold zfi;rw [hm];split
 ·split
  ·rename_i x t hx ht;rw [he x (by rw [hx];simp),zwK hh]
  ·rfl
 ·rfl
 ·rfl
 ·rfl
theorem zwc {op:Op} (he:∀x∈za1 op,s.ev x=s'.ev x) (hh:s.h=s'.h):aval P s op=aval P s' op:=by
 cases op
 case makeFunc f fs cs=>
  simp only [za1,Array.toList_append,List.mem_append] at he;simp only [aval,Array.toList_append,List.all_append,all_e (λy hy=>he y (.inl hy)),all_e (λy hy=>he y (.inr hy)),map_e (λy hy=>he y (.inl hy)),map_e (λy hy=>he y (.inr hy))]
 case slice t x lo hi mx=>
  simp only [za1,List.mem_cons,List.mem_append] at he;simp only [aval,he x (.inl rfl),zrW (λy hy=>he y (.inr (.inl (.inl hy)))) (λy hy=>he y (.inr (.inl (.inr hy)))) (λy hy=>he y (.inr (.inr hy))) hh]
 case call c=>
  simp only [za1,List.mem_append] at he;simp only [aval,zuo (λy hy=>he y (.inr hy)) hh]
 all_goals
  simp only [za1,List.mem_cons,List.not_mem_nil,or_false,forall_eq_or_imp,forall_eq] at he;simp only [aval,he,hh,zqa hh,zun hh,zkU hh,zkV hh,AS.cur]
theorem zgB {c:Call} (he:∀x∈za1 (.call c),s.ev x=s'.ev x):zbh P s c=zbh P s' c:=by
 simp only [za1,List.mem_append] at he;unfold zbh;split
 ·rename_i f hf;rw [hf] at he;rw [he f (.inl (by simp)),all_e (λy hy=>he y (.inr hy)),zip_e (λy hy=>he y (.inr hy))]
 ·rfl
theorem zrX {k:Nat} {x:AV} (hh:s.h=s'.h):rowsK s k x=rowsK s' k x:=by unfold rowsK;rw [hh]
theorem zrY {k:Nat} {t:TypeId} {x:AV} (hh:s.h=s'.h):rowsT P s k t x=rowsT P s' k t x:=by unfold rowsT;rw [zrX hh]
theorem zrZ {x:AV} {R:Bool->Prop} (hh:s.h=s'.h):zfl s x R=zfl s' x R:=by unfold zfl AS.cur;rw [hh]
theorem zup {fl:Nat} {op:Op} {K:AV→AHeap→Prop} (he:∀x∈za1 op,s.ev x=s'.ev x) (hh:s.h=s'.h) (h:zao fl P s op K):zao fl P s' op K:=by
  cases op
  case call c=>
    simp only [za1,List.mem_append] at he
    unfold zao at h ⊢
    dsimp only at h ⊢
    split at h
    · rename_i hcal
      try rw [hcal]
      try dsimp only
      split at h
      · rename_i x y t u ha ht
        try rw [ha,ht]
        try dsimp only
        rw [ha] at he
        rw [← he x (.inr (by simp)),← he y (.inr (by simp)),← hh]
        split at h
        · rename_i e hte
          try rw [hte]
          try dsimp only
          rw [← zrY hh]
          exact h
        · exact h.elim
      · exact h.elim
    · rename_i hcal
      try rw [hcal]
      try dsimp only
      split at h
      · rename_i x y t u ha ht
        try rw [ha,ht]
        try dsimp only
        rw [ha] at he
        rw [← he x (.inr (by simp)),← he y (.inr (by simp)),← hh]
        split at h
        · rename_i e hte
          try rw [hte]
          try dsimp only
          rw [← zrY hh]
          exact h
        · exact h.elim
      · exact h.elim
    · rename_i hcal
      try rw [hcal]
      try dsimp only
      split at h
      · rename_i x t ha ht
        try rw [ha,ht]
        try dsimp only
        rw [ha] at he
        rw [← he x (.inr (by simp)),← hh]
        split at h
        · rename_i e hte
          try rw [hte]
          try dsimp only
          exact h
        · exact h.elim
      · exact h.elim
    · exact h.elim
  all_goals first
    | (simp only [za1,List.mem_cons,List.not_mem_nil,or_false,forall_eq_or_imp,forall_eq] at he
       simp only [zao,he,hh,zyc hh,zrX hh,zrZ hh] at h ⊢ <;>exact h)
    |(simp only [zao,hh] at h ⊢ <;>exact h)
theorem zwd {fl:Nat} {op:Op} {K:AV→AHeap→Prop} (he:∀x∈za1 op,s.ev x=s'.ev x) (hh:s.h=s'.h) (h:aeff fl P s op K):aeff fl P s' op K:=by
  cases op
  case build t parts=>
    simp only [za1] at he
    have e1:=zwa he
    have e2:∀f:Nat→TypeId,(parts.toList.map fun p=>(p.1,((s.ev p.2).2.tag P (f p.1))))=parts.toList.map fun p=>(p.1,((s'.ev p.2).2.tag P (f p.1))):=fun f=>zwb he f
    simp only [aeff] at h ⊢
    rw [← e1,← hh]
    refine ⟨h.1,h.2.1,?_⟩
    have h3:=h.2.2
    split at h3
    · rename_i fs hf
      rw [← e2 (fun i=>(fs.getD i (0,0)).2)]
      exact h3
    · rename_i n e hf
      rw [← e2 (fun _=>e)]
      exact h3
    · exact h3
  case buildSlice t len parts=>
    simp only [za1] at he
    have e1:=zwa he
    have e2:∀f:Nat→TypeId,(parts.toList.map fun p=>(p.1,((s.ev p.2).2.tag P (f p.1))))=parts.toList.map fun p=>(p.1,((s'.ev p.2).2.tag P (f p.1))):=fun f=>zwb he f
    simp only [aeff] at h ⊢
    split at h
    · rename_i e hf
      rw [← e1,← hh,← e2 (fun _=>e)]
      exact h
    · exact h
  all_goals first
    |(have h2:=zup (fl:=fl) (K:=K) he hh (by simpa only [aeff] using h);simpa only [aeff] using h2)
    | (simp only [za1,List.mem_cons,List.not_mem_nil,or_false,forall_eq_or_imp,forall_eq] at he
       simp only [aeff,he,hh] at h ⊢ <;>exact h)
    |(simp only [aeff,hh] at h ⊢ <;>exact h)
theorem fop_e {G:Bool} {o:Oper} {R:Bool->AV->AHeap->Prop} (he:∀x∈za1 o.op,s.ev x=s'.ev x/\known s x=known s' x) (hh:s.h=s'.h) (h:fop cx tab s G o R):fop cx tab s' G o R:=by
 have he1:∀x∈za1 o.op,s.ev x=s'.ev x:=λx hx=>(he x hx).1;unfold fop at h;split at h
 ·rename_i x ho;rw [ho] at he;have:=he x (by simp [za1]);rw [this.1,this.2,hh] at h;unfold fop;rw [ho];exact h
 ·rename_i x ho;rw [ho] at he;have:=he x (by simp [za1]);rw [this.1,this.2,hh] at h;unfold fop;rw [ho];exact h
 ·rename_i c a b ho;rw [ho] at he1;simp only [za1,List.mem_cons,List.not_mem_nil,or_false,forall_eq_or_imp,forall_eq] at he1;rw [he1.1,he1.2.1,he1.2.2,hh] at h;unfold fop;rw [ho];exact h
 ·rename_i c ho;rw [ho] at he1;have hae:∀ (K:AV->AHeap->Prop),aeff cx.fl cx.P s (.call c) K->aeff cx.fl cx.P s' (.call c) K:=λK hk=>zwd he1 hh hk;rw [zwc he1 hh,zgB he1,hh] at h;unfold fop;rw [ho];dsimp only;split at h
  ·rename_i hv;rw [if_pos hv];exact h
  ·rename_i hv;rw [if_neg hv];split at h
   ·exact h
   ·exact ⟨h.1,hae _ h.2⟩
 ·rename_i n1 n2 n3 n4;rw [zwc he1 hh,hh] at h;refine (z8 n1 n2 n3 n4).mpr ?_;split at h
  ·rename_i hv;rw [if_pos hv];exact h
  ·rename_i hv;rw [if_neg hv];exact ⟨h.1,h.2.1,zwd he1 hh h.2.2⟩
end
open Go
def anc (ops:Array Oper):Nat->Nat->Nat->Bool
 |0,_,_=>false
 |f+1,j,i=>match ops[j]? with
  |some o=>o.after.toList.any λe=>Region.binds .any e&&(e.on==i||(decide (i<e.on)&&anc ops f e.on i))
  |none=>false
def gslot (all:Array Oper) (o:Oper):List Nat:=
 match o.guard with
 |some (j,_)=>(match (all[j]?).bind (·.dst) with
  |some d=> [d]
  |none=> [])
 |none=> []
def zkW (all:Array Oper) (o:Oper):List Nat:=
 ((za1 o.op).filterMap fun
  | .tmp t=>some t
  |_=>none)++gslot all o
theorem zr0 (s:AS) (d:Option Nat) (g:Bool) (v:AV) (k:Nat):lk (s.put d g v).t k=if d=some k then some (g,v) else lk s.t k:=by
 unfold AS.put;cases d with
 |none=>simp
 |some j=>
  simp only [lk,Option.some.injEq]
section
variable {cx : Cx} {tab : Tab}
theorem Sat.drawn {E:Env} {s:AS} {a:Act} {w:World} (hs:Sat cx E s a w):Sat cx E s a { w with drawn:=w.drawn+1 } where
 slots:=λk g v hk=>by obtain ⟨x,h1,h2,h3⟩:=hs.slots k g v hk;exact ⟨x,h1,λe=>Rep.step (W:=w) (W':= { w with drawn:=w.drawn+1 }) (λ_ _ h=>h) (λ_ _ _=>rfl) _ _ (λj _=>GoesOn.refl E s.h j) (h2 e),h3⟩
 nt:=hs.nt
 hp:=hs.hp.refit ⟨rfl,rfl,rfl,rfl,λ_ _=>rfl,λ_ _ h _ _=>h⟩ (base:=0) rfl rfl (λ_ _ h=>h) (λb hb=>(hs.hp.own b hb).2) hs.hp.mlt hs.hp.nlt
 base:=hs.base
 marks:=hs.marks
 ghost:=cx.stab _ _ _ _ _ w _ (λ_ _ _=>rfl) (λ_ hb=> .inl hb) (λb hb=>hb.elim (λh=>(hs.hp.own b h).1) hs.marks.lt) (Nat.le_refl _) rfl rfl rfl hs.ghost
theorem zfJ {ops:Array Oper} {S:Nat->Bool} (hc:∀ (i:Nat) o,ops[i]?=some o->S i=true->∀e∈o.after.toList,Region.binds .any e=true->S e.on=true):∀ (f j i:Nat),anc ops f j i=true->(∀o,ops[j]?=some o->∀e∈o.after.toList,Region.binds .any e=true->S e.on=true)->S i=true
 |0,_,_,h,_=>by cases h
 | f+1,j,i,h,hj=>by
  unfold anc at h;split at h
  ·rename_i o ho;obtain ⟨e,he,h⟩:=List.any_eq_true.1 h;simp only [Bool.and_eq_true,Bool.or_eq_true,beq_iff_eq] at h;obtain ⟨hb,h⟩:=h;have hS:=hj o ho e he hb;rcases h with rfl|⟨_,h⟩
   ·exact hS
   ·exact zfJ hc f _ i h (λo' ho'=>hc _ o' ho' hS)
  ·cases h
theorem zuq {s s':AS} {l:List Operand} (h:∀k,k∈(l.filterMap fun| .tmp t=>some t|_=>none)->lk s.t k=lk s'.t k):∀x∈l,s.ev x=s'.ev x/\known s x=known s' x:=by
 intro x hx;cases x with
 |tmp t=>
  have:=h t (List.mem_filterMap.2 ⟨.tmp t,hx,rfl⟩);exact ⟨by simp only [AS.ev,this],by simp only [known,this]⟩
 |_=>exact ⟨rfl,rfl⟩
theorem znJ {s s':AS} {all:Array Oper} {o:Oper} (h:∀k∈gslot all o,lk s.t k=lk s'.t k):zbi s all o.guard=zbi s' all o.guard:=by
 unfold gslot at h;unfold zbi;cases hg:o.guard with
 |none=>rfl
 | some p=>
  obtain ⟨j,want⟩:=p;rw [hg] at h;dsimp only at h ⊢;cases hj:(all[j]?).bind (·.dst) with
  |none=>rfl
  |some d=>
   rw [hj] at h;dsimp only at h ⊢;rw [h d (by simp)]
end
open Go
theorem zpd (l:Array Bool) (i k:Nat) (hi:i<l.size):(l.setIfInBounds i true).getD k false=if k=i then true else l.getD k false:=by
 simp only [Array.getD_eq_getD_getElem?];by_cases h:k=i
 ·subst h;rw [if_pos rfl,Array.getElem?_setIfInBounds_self_of_lt hi];rfl
 ·rw [if_neg h,Array.getElem?_setIfInBounds_ne (Ne.symm h)]
theorem zis (l:Array Bool) (i:Nat) (n:Nat) (hi:l[i]?=some false) (hc:l.toList.countP (λb=>b==false)=n+1):(l.setIfInBounds i true).toList.countP (λb=>b==false)=n:=by
 obtain ⟨hlt,he⟩:=Array.getElem?_eq_some_iff.1 hi;rw [Array.toList_setIfInBounds,List.countP_set (by simpa using hlt)];have:l.toList[i]'(by simpa using hlt)=false:=by simpa using he
 rw [this,hc];simp
section
variable {cx : Cx} {tab : Tab} {ops : Array Oper}
end
attribute [go_sem] fop detOp
open Go
inductive Foot where
 |cold|on (i:Nat)|new (i:Nat)|whole
 deriving DecidableEq
def footA:AV->Foot
 | .vp _ _=> .cold
 | .tp _ _=> .cold
 | .dp _=> .cold
 | .d _=> .cold
 | .ap i _ _ _ _=> .on i
 | .osl i _ _ _ _=> .on i
 |_=> .whole
def footL:AV->Foot
 | .vp i _=> .on i
 | .tp i _=> .on i
 | .dp _=> .cold
 | .ap i _ _ _ _=> .on i
 |_=> .whole
def foot (fl:Nat) (P:Program) (s:AS) (op:Op):Foot:=
 match op with
 | .alloc _=> .new (fresh fl s.h)
 | .call c=>(match zbh P s c with
  |some (_,args,_)=>if AV.idsL args= [] then .cold else .whole
  |none=> .whole)
 | .move _=> .cold
 | .assign _=> .cold
 | .pick _ _ _=> .cold
 | .binOp o t x y u=>if isVal P (.binOp o t x y u) then .cold else .whole
 | .unOp _ _ _=> .cold
 | .extract _ _=> .cold
 | .makeFunc _ _ _=> .cold
 | .field _ _ _=> .cold
 | .fieldAddr _ x _=>footA (s.ev x).2
 | .nilCheck x=>footA (s.ev x).2
 | .indexAddr _ x _=>footA (s.ev x).2
 | .load _ x=>footL (s.ev x).2
 | .store _ x _=>(match (s.ev x).2 with
  | .vp i _=> .on i
  | .tp i _=> .on i
  | .ap i _ _ _ _=> .on i
  |_=> .whole)
 |_=> .whole
theorem zgC:∀ {h:AHeap} {j:Nat} {o:AObj},hget h j=none->hset h j o=h
  | [],_,_,_=>rfl
  | (k,x)::r,j,o,hn=>by
    simp only [hget] at hn;simp only [hset];split
    · rename_i e;rw [if_pos e] at hn;cases hn
    · rename_i e
      rw [if_neg e] at hn;rw [zgC hn]
theorem zmc:∀ (h:AHeap) {i j:Nat} {a b:AObj},i≠j→hset (hset h i a) j b=hset (hset h j b) i a
  | [],i,j,a,b,_=>rfl
  | (k, x)::r,i,j,a,b,hne=>by
    by_cases h1:k=i
    · subst h1
      simp [hset,hne]
    · by_cases h2:k=j
      · subst h2
        simp [hset,h1]
      · simp [hset,h1,h2,zmc r hne]
section
variable {cx : Cx} {tab : Tab} {s : AS}
theorem zh2 {k:AHeap} {i n kk:Nat} (e:hget k i=hget s.h i):AS.cur { s with h:=k } i n kk=AS.cur s i n kk:=by unfold AS.cur;dsimp only;rw [e]
theorem zfe {P:Program} {t:TypeId} {x y:AV} {k:AHeap} (hf:footA x= .cold∨∃i,footA x= .on i∧hget k i=hget s.h i):zaI P { s with h:=k } t x y=zaI P s t x y:=by
 unfold zaI
 cases y with
 | d z=>
  cases z with
  | int kk j=>
   dsimp only
   generalize (ty P t).td=dd
   cases x with
   | osl i k' n off len=>
    have e:hget k i=hget s.h i:=by
     rcases hf with h|⟨j,h,e⟩
     ·cases h
     ·simp only [footA,Foot.on.injEq] at h;subst h;exact e
    cases dd<;>first|rfl|simp only [zh2 e]
   | ap i n k' r off=>
    have e:hget k i=hget s.h i:=by
     rcases hf with h|⟨j,h,e⟩
     ·cases h
     ·simp only [footA,Foot.on.injEq] at h;subst h;exact e
    cases dd<;>first|rfl|simp only [zh2 e]
   |d z=>cases dd<;>cases z<;>rfl
   |_=>cases dd<;>rfl
  |_=>rfl
 |_=>rfl
theorem zff {P:Program} {t:TypeId} {x:AV} {f:Nat} {k:AHeap} (hf:footA x= .cold\/∃i,footA x= .on i/\hget k i=hget s.h i):zaH P { s with h:=k } t x f=zaH P s t x f:=by
 unfold zaH;split
 ·cases x with
  | ap i n k' r off=>
   have e:hget k i=hget s.h i:=by
    rcases hf with h|⟨j,h,e⟩
    ·cases h
    ·simp only [footA,Foot.on.injEq] at h;subst h;exact e
   simp only [zh2 e]
  |_=>rfl
 ·rfl
theorem zkf {P:Program} {x:Operand} {k:AHeap} (hf:footA (s.ev x).2= .cold\/∃i,footA (s.ev x).2= .on i/\hget k i=hget s.h i):aval P { s with h:=k } (.nilCheck x)=aval P s (.nilCheck x):=by
 have hev:AS.ev { s with h:=k } x=s.ev x:=by cases x<;>rfl
 simp only [aval,hev];generalize s.ev x=q at hf ⊢;obtain ⟨g,v⟩:=q;cases v with
 | ap i n k' r off=>
  have e:hget k i=hget s.h i:=by
   rcases hf with h|⟨j,h,e⟩
   ·cases h
   ·simp only [footA,Foot.on.injEq] at h;subst h;exact e
  simp only [zh2 e]
 |fn f fs cs=>rcases hf with h|⟨j,h,_⟩<;>cases h
 |_=>rfl
theorem zit {P:Program} {t:TypeId} {x:AV} {k:AHeap} (hf:footL x= .cold\/∃i,footL x= .on i/\hget k i=hget s.h i):zea P { s with h:=k } t x=zea P s t x:=by
 unfold zea;cases x with
 | ap i n k' r off=>
  have e:hget k i=hget s.h i:=by
   rcases hf with h|⟨j,h,e⟩
   ·cases h
   ·simp only [footL,Foot.on.injEq] at h;subst h;exact e
  simp only [e]
 | vp i off=>
  have e:hget k i=hget s.h i:=by
   rcases hf with h|⟨j,h,e⟩
   ·cases h
   ·simp only [footL,Foot.on.injEq] at h;subst h;exact e
  simp only [e]
 | tp i off=>
  have e:hget k i=hget s.h i:=by
   rcases hf with h|⟨j,h,e⟩
   ·cases h
   ·simp only [footL,Foot.on.injEq] at h;subst h;exact e
  simp only [e]
 |_=>rfl
theorem zur {G:Bool} {o:Oper} {g:Bool} {v:AV} {h':AHeap} (h:∀R:Bool->AV->AHeap->Prop,R g v h'->fop cx tab s G o R) (hne:isEff o.op=false->h'=s.h):
  (foot cx.fl cx.P s o.op= .cold->isEff o.op=false/\∀ (k:AHeap) (R:Bool->AV->AHeap->Prop),R g v k->fop cx tab { s with h:=k } G o R)/\
  (∀i,foot cx.fl cx.P s o.op= .on i->∀ (k:AHeap),hget k i=hget s.h i->(isEff o.op=false->∀R:Bool->AV->AHeap->Prop,R g v k->fop cx tab { s with h:=k } G o R)/\
   (isEff o.op=true->∃ob,hget h' i=some ob/\h'=hset s.h i ob/\∀R:Bool->AV->AHeap->Prop,R g v (hset k i ob)->fop cx tab { s with h:=k } G o R)):=by
 have hev:∀ (k:AHeap) (x:Operand),AS.ev { s with h:=k } x=s.ev x:=λk x=>by cases x<;>rfl
 have hkn:∀ (k:AHeap) (x:Operand),known { s with h:=k } x=known s x:=λk x=>by cases x<;>rfl
 have val:∀ (k:AHeap),isVal cx.P o.op=true->(∀x,o.op= .move x->False)->(∀x,o.op= .assign x->False)->(∀x y z,o.op= .pick x y z->False)->(∀c,o.op= .call c->False)->aval cx.P { s with h:=k } o.op=aval cx.P s o.op->
   ∀ (k':AHeap) (R:Bool->AV->AHeap->Prop),k'=k->R g v k'->fop cx tab { s with h:=k } G o R:=by intro k hv n1 n2 n3 n4 ha k' R hk hR;subst hk;have h1:=h (λg v _=>R g v k') hR;rw [z8 n1 n2 n3 n4,if_pos hv] at h1 ⊢;rw [ha];exact h1
 have nv:∀ (k:AHeap) (R:Bool->AV->AHeap->Prop),isVal cx.P o.op=true->(∀x,o.op= .move x->False)->(∀x,o.op= .assign x->False)->(∀x y z,o.op= .pick x y z->False)->(∀c,o.op= .call c->False)->aval cx.P { s with h:=k } o.op=aval cx.P s o.op->R g v k->fop cx tab { s with h:=k } G o R:=λk R hv n1 n2 n3 n4 ha hR=>val k hv n1 n2 n3 n4 ha k R rfl hR;have cur:∀ (k:AHeap) (i n kk:Nat),hget k i=hget s.h i->AS.cur { s with h:=k } i n kk=AS.cur s i n kk:=λk i n kk e=>by unfold AS.cur;dsimp only;rw [e]
 constructor
 ·intro hf;cases hop:o.op
  case move x=>
   refine ⟨rfl,λk R hR=>?_⟩;have h1:=h (λg v _=>R g v k) hR;unfold fop at h1 ⊢;rw [hop] at h1 ⊢;simp only [hev,hkn] at h1 ⊢;exact h1
  case assign x=>
   refine ⟨rfl,λk R hR=>?_⟩;have h1:=h (λg v _=>R g v k) hR;unfold fop at h1 ⊢;rw [hop] at h1 ⊢;simp only [hev,hkn] at h1 ⊢;exact h1
  case pick c a b=>
   refine ⟨rfl,λk R hR=>?_⟩;have h1:=h (λg v _=>R g v k) hR;unfold fop at h1 ⊢;rw [hop] at h1 ⊢;simp only [hev] at h1 ⊢;exact h1
  case binOp bo t x y u=>
   rw [hop] at hf;simp only [foot] at hf;split at hf
   ·rename_i hv;refine ⟨rfl,λk R hR=>nv k R (by rw [hop];exact hv) (by simp [hop]) (by simp [hop]) (by simp [hop]) (by simp [hop]) (by rw [hop];simp only [aval,hev]) hR⟩
   ·cases hf
  case unOp a b c=>exact ⟨rfl,λk R hR=>nv k R (by rw [hop];rfl) (by simp [hop]) (by simp [hop]) (by simp [hop]) (by simp [hop]) (by rw [hop];simp only [aval,hev]) hR⟩
  case extract a b=>exact ⟨rfl,λk R hR=>nv k R (by rw [hop];rfl) (by simp [hop]) (by simp [hop]) (by simp [hop]) (by simp [hop]) (by rw [hop];simp only [aval,hev]) hR⟩
  case makeFunc a b c=>exact ⟨rfl,λk R hR=>nv k R (by rw [hop];rfl) (by simp [hop]) (by simp [hop]) (by simp [hop]) (by simp [hop]) (by rw [hop];simp only [aval,hev]) hR⟩
  case field a b c=>exact ⟨rfl,λk R hR=>nv k R (by rw [hop];rfl) (by simp [hop]) (by simp [hop]) (by simp [hop]) (by simp [hop]) (by rw [hop];simp only [aval,hev]) hR⟩
  case fieldAddr a x c=>
   rw [hop] at hf;simp only [foot] at hf;refine ⟨rfl,λk R hR=>nv k R (by rw [hop];rfl) (by simp [hop]) (by simp [hop]) (by simp [hop]) (by simp [hop]) ?_ hR⟩;rw [hop];simp only [aval,hev,zff (.inl hf)]
  case nilCheck x=>
   rw [hop] at hf;simp only [foot] at hf;refine ⟨rfl,λk R hR=>nv k R (by rw [hop];rfl) (by simp [hop]) (by simp [hop]) (by simp [hop]) (by simp [hop]) ?_ hR⟩;rw [hop];exact zkf (.inl hf)
  case indexAddr a x y=>
   rw [hop] at hf;simp only [foot] at hf;refine ⟨rfl,λk R hR=>nv k R (by rw [hop];rfl) (by simp [hop]) (by simp [hop]) (by simp [hop]) (by simp [hop]) ?_ hR⟩;rw [hop];simp only [aval,hev,zfe (.inl hf)]
  case load a x=>
   rw [hop] at hf;simp only [foot] at hf;refine ⟨rfl,λk R hR=>nv k R (by rw [hop];rfl) (by simp [hop]) (by simp [hop]) (by simp [hop]) (by simp [hop]) ?_ hR⟩;rw [hop];simp only [aval,hev,zit (.inl hf)]
  case store a x y=>
   rw [hop] at hf;simp only [foot] at hf;split at hf<;>cases hf
  case call c=>
   rw [hop] at hf;simp only [foot] at hf;cases hco:zbh cx.P s c with
   |none=>rw [hco] at hf;cases hf
   | some q=>
    obtain ⟨f,args,vc⟩:=q;rw [hco] at hf;dsimp only at hf;split at hf
    ·rename_i hids
     have hco':∀k,zbh cx.P { s with h:=k } c=some (f,args,vc):=λk=>by rw [<-hco];unfold zbh;cases c.callee<;>simp only [hev]
     obtain ⟨fo,hcal⟩:∃fo,c.callee= .value fo:=by unfold zbh at hco;cases hc:c.callee<;>rw [hc] at hco<;>first|exact ⟨_,rfl⟩|cases hco
     refine ⟨by simp [isEff,hcal],λk R hR=>?_⟩;have h1:=h (λg v _=>R g v k) hR;unfold fop at h1 ⊢;rw [hop] at h1 ⊢;dsimp only at h1 ⊢;have hv:¬isVal cx.P (.call c)=true:=by simp [isVal,zcL,hcal]
     rw [if_neg hv,hco] at h1;rw [if_neg hv,hco'];dsimp only at h1 ⊢;rw [zdr args 9 k s.h hids];cases htb:tab f (args.map (frz 9 s.h)) with
     |none=>rw [htb] at h1;exact h1.elim
     |some pr=>
      obtain ⟨pre,r⟩:=pr;rw [htb] at h1;exact h1
    ·cases hf
  all_goals (rw [hop] at hf;simp only [foot] at hf;cases hf)
 ·intro i hf k hk;cases hop:o.op
  case binOp bo t x y u=>
   rw [hop] at hf;simp only [foot] at hf;split at hf<;>cases hf
  case fieldAddr a x c=>
   rw [hop] at hf;simp only [foot] at hf;refine ⟨λ_ R hR=>nv k R (by rw [hop];rfl) (by simp [hop]) (by simp [hop]) (by simp [hop]) (by simp [hop]) ?_ hR,λe=>by cases e⟩;rw [hop];simp only [aval,hev,zff (.inr ⟨i,hf,hk⟩)]
  case nilCheck x=>
   rw [hop] at hf;simp only [foot] at hf;refine ⟨λ_ R hR=>nv k R (by rw [hop];rfl) (by simp [hop]) (by simp [hop]) (by simp [hop]) (by simp [hop]) ?_ hR,λe=>by cases e⟩;rw [hop];exact zkf (.inr ⟨i,hf,hk⟩)
  case indexAddr a x y=>
   rw [hop] at hf;simp only [foot] at hf;refine ⟨λ_ R hR=>nv k R (by rw [hop];rfl) (by simp [hop]) (by simp [hop]) (by simp [hop]) (by simp [hop]) ?_ hR,λe=>by cases e⟩;rw [hop];simp only [aval,hev,zfe (.inr ⟨i,hf,hk⟩)]
  case load a x=>
   rw [hop] at hf;simp only [foot] at hf;refine ⟨λ_ R hR=>nv k R (by rw [hop];rfl) (by simp [hop]) (by simp [hop]) (by simp [hop]) (by simp [hop]) ?_ hR,λe=>by cases e⟩;rw [hop];simp only [aval,hev,zit (.inr ⟨i,hf,hk⟩)]
  case store t x y=>
   rw [hop] at hf;simp only [foot] at hf;refine ⟨λe=>(by cases e),λ_=>?_⟩;have h1:=h (λg1 v1 h1=>g1=g/\v1=v/\h1=h') ⟨rfl,rfl,rfl⟩;have n1:∀x,o.op= .move x->False:=by simp [hop]
   have n2:∀x,o.op= .assign x->False:=by simp [hop]
   have n3:∀x y z,o.op= .pick x y z->False:=by simp [hop]
   have n4:∀c,o.op= .call c->False:=by simp [hop]
   rw [z8 n1 n2 n3 n4] at h1;have hv:¬isVal cx.P o.op=true:=by rw [hop];simp [isVal,zcL]
   rw [if_neg hv,hop] at h1;obtain ⟨rfl,hdt,h1⟩:=h1;unfold aeff at h1;dsimp only at h1;obtain ⟨q1,q2,q3,q4,q5,h1⟩:=h1;split at h1
   ·rename_i i' off hx;rw [hx] at hf;simp only [Foot.on.injEq] at hf;subst hf;split at h1
    ·rename_i cs hi;obtain ⟨q6,q7,q8,q9⟩:=h1;refine ⟨_,by rw [<-q9];exact zh hi,q9.symm,λR hR=>?_⟩;rw [z8 n1 n2 n3 n4,if_neg hv,hop];refine ⟨q7.symm ▸ rfl,hdt,?_⟩;unfold aeff;dsimp only;simp only [hev];refine ⟨q1,q2,q3,q4,q5,?_⟩;rw [hx];dsimp only;rw [hk,hi];refine ⟨q6,?_⟩;rw [<-q7,<-q8] at hR;exact hR
    ·exact h1.elim
   ·rename_i i' off hx;rw [hx] at hf;simp only [Foot.on.injEq] at hf;subst hf;split at h1
    ·rename_i tt cs hi;obtain ⟨q6,q7,q8,q9⟩:=h1;refine ⟨_,by rw [<-q9];exact zh hi,q9.symm,λR hR=>?_⟩;rw [z8 n1 n2 n3 n4,if_neg hv,hop];refine ⟨q7.symm ▸ rfl,hdt,?_⟩;unfold aeff;dsimp only;simp only [hev];refine ⟨q1,q2,q3,q4,q5,?_⟩;rw [hx];dsimp only;rw [hk,hi];refine ⟨q6,?_⟩;rw [<-q7,<-q8] at hR;exact hR
    ·exact h1.elim
   ·rename_i i' n' kk r off hx;rw [hx] at hf;simp only [Foot.on.injEq] at hf;subst hf;split at h1
    ·rename_i kx xs hi;obtain ⟨g1,g2,g3,g4,h1⟩:=h1;split at h1
     ·rename_i ds hds;obtain ⟨q7,q8,q9⟩:=h1;refine ⟨_,by rw [<-q9];exact zh hi,q9.symm,λR hR=>?_⟩;rw [z8 n1 n2 n3 n4,if_neg hv,hop];refine ⟨q7.symm ▸ rfl,hdt,?_⟩;unfold aeff;dsimp only;simp only [hev];refine ⟨q1,q2,q3,q4,q5,?_⟩;rw [hx];dsimp only;rw [hk,hi];refine ⟨g1,g2,g3,g4,?_⟩;rw [hds];rw [<-q7,<-q8] at hR;exact hR
     ·exact h1.elim
    ·exact h1.elim
   ·rename_i n5 n56 n6;split at hf
    ·rename_i a b hx;exact (n5 _ _ hx).elim
    ·rename_i a b hx;exact (n56 _ _ hx).elim
    ·rename_i a b c d e hx;exact (n6 _ _ _ _ _ hx).elim
    ·cases hf
  case call c=>
   rw [hop] at hf;simp only [foot] at hf;split at hf
   ·split at hf<;>cases hf
   ·cases hf
  all_goals (rw [hop] at hf;simp only [foot] at hf;cases hf)
end
end Go.Aw
