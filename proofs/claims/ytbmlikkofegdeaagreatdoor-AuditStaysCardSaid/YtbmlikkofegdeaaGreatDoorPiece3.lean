/-
  Parts of the proof: AwMap, AwOp, AwOpOk, AwOpOk2 (short names; the readable texts lie in the repo, under wip).
-/
import Derived.Test.YtbmlikkofegdeaaGreatDoorPiece2
set_option maxRecDepth 100000
set_option maxHeartbeats 2000000
set_option linter.unusedSimpArgs false
set_option linter.unusedVariables false
namespace Go.Aw
open Go
def alike:TD->D->Bool
 | .int k,.int k' _=>k==k'
 | .str,.str _=>true
 | .bool,.bool _=>true
 |_,_=>false
def sameS:D->D->Bool
 | .int _ a,.int _ b=>a==b
 | .str a,.str b=>a==b
 | .bool a,.bool b=>a==b
 |_,_=>false
def mix (k:D):List (D×D)->Option (Nat×D)
 | []=>none
 |p::r=>if sameS k p.1 then some (0,p.2) else (mix k r).map λq=>(q.1+1,q.2)
def mat (k:D):List (D×D)->Option D
 | []=>none
 |p::r=>if sameS k p.1 then some p.2 else mat k r
def mput (k v:D):List (D×D)->List (D×D)
 | []=> [(k,v)]
 |p::r=>if sameS k p.1 then (k,v)::r else p::mput k v r
theorem zkI (k:D):∀es,mat k es=(mix k es).map (·.2)
 | []=>rfl
 |p::r=>by
  simp only [mat,mix];split
  ·rfl
  ·rw [zkI k r];cases mix k r<;>rfl
theorem zo4 (k v:D):∀es,mput k v es=match mix k es with|some q=>es.set q.1 (k,v)|none=>es++ [(k,v)]
 | []=>rfl
 |p::r=>by
  simp only [mput,mix];split
  ·rfl
  ·rw [zo4 k v r];cases mix k r<;>rfl
theorem zo5 (k:D):∀es q,mix k es=some q->∃p,es[q.1]?=some p/\sameS k p.1=true/\p.2=q.2
 | [],q,h=>by cases h
 | p::r,q,h=>by
  simp only [mix] at h;split at h
  ·rename_i hs;cases h;exact ⟨p,rfl,hs,rfl⟩
  ·cases hm:mix k r with
   |none=>rw [hm] at h;cases h
   |some q'=>
    rw [hm] at h;cases h;obtain ⟨p',h1,h2,h3⟩:=zo5 k r q' hm;exact ⟨p',by simpa using h1,h2,h3⟩
theorem zlW (a b:List UInt8):((⟨a.toArray⟩:ByteArray)==⟨b.toArray⟩)=(a==b):=by have:((⟨a.toArray⟩:ByteArray)==⟨b.toArray⟩)=(a.toArray==b.toArray):=rfl;rw [this,Bool.eq_iff_iff];simp
theorem zp3 {d:TypeDesc} {k x:D} (hk:alike (tdOf d) k=true) (hx:alike (tdOf d) x=true):Instr.sameNow d (valD k) (valD x)=some (sameS k x):=by
 cases d<;>simp only [tdOf] at hk hx<;>(try (split at hk))<;>(cases k<;>cases x<;>simp only [alike,beq_iff_eq,Bool.false_eq_true] at hk hx)
 all_goals (subst_vars;simp [Instr.sameNow,valD,sameS,zlW])
theorem zjZ {d:TypeDesc} {k:D} (hk:alike (tdOf d) k=true):∀ (es:List (D×D)) (l:List MapEntry) (i:Nat),(es.all λp=>alike (tdOf d) p.1)=true->
  l.map (λe=>(e.key,e.val))=es.map (λp=>(valD p.1,valD p.2))->Instr.findNow d (valD k) l i=some ((mix k es).map λq=>(i+q.1,valD q.2))
 | [],l,i,_,h=>by
  cases l with
  |nil=>rfl
  |cons e l=>simp at h
 | p::r,l,i,ha,h=>by
  cases l with
  |nil=>simp at h
  | cons e l=>
   simp only [List.map_cons,List.cons.injEq,Prod.mk.injEq] at h;simp only [List.all_cons,Bool.and_eq_true] at ha;simp only [Instr.findNow,h.1.1,zp3 hk ha.1,mix];cases hs:sameS k p.1 with
   |true=>simp [h.1.2]
   |false=>
    simp only [Bool.false_eq_true,if_false];rw [zjZ hk r l (i+1) ha.2 h.2];cases mix k r with
    |none=>rfl
    |some q=>simp only [Option.map_some];congr 3;omega
def AS.esOf (s:AS) (i:Nat):Option (List (D×D)):=match hget s.h i with|some (.omap es)=>some es|_=>none
def zdq (P:Program) (s:AS) (t:TypeId) (m k:AV) (ok:Bool):Prop×AV:=
 match (ty P t).td,m,k with
 | .map kt et,.map i,.d kd=>(match zT P 12 et,s.esOf i with
  | [.d z],some es=>(z.scal=true∧zZ P et=true∧(ty P et).td.agg=false∧alike (ty P kt).td kd=true∧(es.all fun p=>alike (ty P kt).td p.1)=true,
    if ok then .tup [.d ((mat kd es).getD z),.d (.bool (mat kd es).isSome)] else .d ((mat kd es).getD z))
  |_,_=>(False,.any))
 |_,_,_=>(False,.any)
theorem zet {W:World} {X:Nat->Prop} {x:D} {v:Value} (h:x.scal=true):RepD W X x v↔v=valD x:=by
 cases x<;>simp only [D.scal,Bool.false_eq_true] at h<;>simp only [RepD,valD]
section
variable {P : Program} {W : World} {E : Env} {s : AS}
theorem zj0 {t:TypeId} {k:D} (h:alike (ty P t).td k=true):∃d,P.underlying t=some d/\tdOf d=(ty P t).td:=by
 have hne:(ty P t).td≠ .other:=λe=>by rw [e] at h;cases k<;>cases h
 exact zdL rfl hne
theorem zg1 {td:TD} {k:D} (h:alike td k=true):k.scal=true:=by
 cases td<;>cases k<;>first|rfl|cases h
theorem zgw {t:TypeId} {k:D} (h:alike (ty P t).td k=true) (e:Bool) (w:World):(Instr.checkKey e 10000 t (valD k)).run P w= .ok () w:=by obtain ⟨d,hd,he⟩:=zj0 h;rw [<-he] at h;unfold Instr.checkKey;rw [Sem.run_bind,run_underlying hd,Result.andThen_ok];cases d<;>simp only [tdOf] at h<;>(try (split at h))<;>(cases k<;>simp only [alike,Bool.false_eq_true] at h)<;>rfl
theorem zhC {t:TypeId} {k:D} (h:alike (ty P t).td k=true) {es:List (D×D)} {mes:Array MapEntry} (hes:esOk es mes) (ha:(es.all λp=>alike (ty P t).td p.1)=true) (w:World):
  (Instr.findKey t (valD k) mes.toList).run P w= .ok ((mix k es).map λq=>(q.1,valD q.2)) w:=by obtain ⟨d,hd,he⟩:=zj0 h;rw [<-he] at h ha;unfold Instr.findKey;rw [Sem.run_bind,run_underlying hd,Result.andThen_ok,zjZ h es mes.toList 0 ha hes.2];simp
theorem zrB {t:TypeId} (hz:zZ P t=true) {z:D} (hs:z.scal=true) (he:zT P 12 t= [.d z]) (ha:(ty P t).td.agg=false) (w:World):(zeroValue t).run P w= .ok (valD z) w:=by
 obtain ⟨i,v,h1,h2,h3,h4,h5,h6⟩:=zih hz;rw [zgv h1 h2 w];rw [he] at h3;rw [ha] at h4;cases v with
 |agg cs=>cases h4
 |_=>
  simp only [Value.cells,gndL,Bool.and_true] at h3;have:=zrz (W:=w) (E:=⟨λ_=>none,λ_=>0,λ_=>False,λ_=>False⟩) (h:= []) h3;simp only [Rep] at this;rw [(zet hs).1 this]
theorem znr {t:TypeId} {m k:AV} {mv kv:Value} {ok:Bool} (hp:SatH E s.h W) (hv:(zdq P s t m k ok).1) (hm:Rep W E s.h m mv) (hk:Rep W E s.h k kv):
  ∃v,(Instr.lookup t mv kv ok).run P W= .ok v W/\Rep W E s.h (zdq P s t m k ok).2 v:=by
 unfold zdq at hv ⊢;split at hv
 ·rename_i kt et i kd ht;try dsimp only at hv ⊢
  split at hv
  ·rename_i z es hz hes;obtain ⟨h1,h2,h3,h4,h5⟩:=hv;try dsimp only
   simp only [Rep] at hm hk;obtain ⟨b,es',g1,g2,rfl⟩:=hm
   have hes':es'=es:=by unfold AS.esOf at hes;rw [g1] at hes;simpa using hes
   subst hes';have ho:=hp.heap i _ g1;simp only [RepObj] at ho;obtain ⟨b',mes,clock,q1,q2,q3⟩:=ho;rw [g2] at q1;cases q1;rw [(zet (zg1 h4)).1 hk];have hz0:=zrB h2 h1 hz h3
   have hv:(valD ((mat kd es').getD z))=((mix kd es').map λq=>valD q.2).getD (valD z):=by rw [zkI];cases mix kd es'<;>rfl
   refine ⟨if ok then .tuple #[valD ((mat kd es').getD z),.bool (mat kd es').isSome] else valD ((mat kd es').getD z),?_,?_⟩
   ·unfold Instr.lookup;simp only [Sem.run_bind,run_underlying (zrA ht),Result.andThen_ok];have hget:(getObj b).run P W= .ok (.map mes clock) W:=by simp [getObj,Sem.run,q2]
    simp only [Sem.run_bind,hget,Result.andThen_ok,Sem.run_pure,zgw h4,zhC h4 q3 h5];rw [zkI];cases mix kd es' with
    |none=>simp [hz0]
    |some q=>simp
   ·have hsc:((mat kd es').getD z).scal=true:=by
     rw [zkI];cases hm:mix kd es' with
     |none=>exact h1
     |some q=>
      obtain ⟨p,f1,f2,f3⟩:=zo5 kd es' q hm;have:=List.all_eq_true.1 q3.1 p (List.mem_of_getElem? f1);simp only [Bool.and_eq_true] at this;simp only [Option.map_some,Option.getD_some];rw [<-f3];exact this.2
    cases ok
    ·simp only [Bool.false_eq_true,if_false,Rep];exact (zet hsc).2 rfl
    ·simp only [if_true,Rep,Reps];exact ⟨_,rfl,_,_,rfl,(zet hsc).2 rfl,_,_,rfl,by simp [RepD],rfl⟩
  ·exact hv.elim
 ·exact hv.elim
end
open Go
def AS.bnd (s:AS) (x:Option Operand) (dflt:Int):Prop×Int:=
 match x with
 |none=>(True,dflt)
 |some x=>match s.ev x with
  |(g,.d (.int _ n))=>(g=true,n)
  |_=>(False,0)
def AS.cur (s:AS) (i n k:Nat):Prop:=
 match hget s.h i with
 |some (.arr k' xs)=>k'=k/\xs.length=n
 |_=>False
def zii (P:Program) (t:TypeId) (f:Nat):Option (Nat×Nat):=
 match (ty P t).td with
 | .struct fs=>fs[f]?
 |_=>none
def AV.isD:AV->Bool
 | .d _=>true
 |_=>false
def AV.oneD:AV->List D
 | .d x=> [x]
 |_=> []
def zdj (P:Program) (s:AS) (t:TypeId) (x:AV) (lo hi mx:Option Operand):Prop×AV:=
 let l:=s.bnd lo 0
 match x with
 | .d (.str b)=>
  let h:=s.bnd hi b.length
  (mx=none/\(ty P t).td= .str/\l.1/\h.1/\0<=l.2/\l.2<=h.2/\h.2<=b.length,.d (.str ((b.take h.2.toNat).drop l.2.toNat)))
 | .d (.sl k xs)=>
  let h:=s.bnd hi xs.length
  let m:=s.bnd mx xs.length
  ((mx≠none->hi≠none)/\(∃e,(ty P t).td= .slice e/\(ty P e).size=k/\(ty P e).td≠ .other)/\l.1/\h.1/\m.1/\0<=l.2/\l.2<=h.2/\h.2<=m.2/\m.2<=xs.length,.d (.sl k ((xs.take h.2.toNat).drop l.2.toNat)))
 | .osl i k n off len=>
  let h:=s.bnd hi len
  (mx=none/\s.cur i n k/\(∃e,(ty P t).td= .slice e/\(ty P e).size=k/\(ty P e).td≠ .other)/\l.1/\h.1/\0<=l.2/\l.2<=h.2/\h.2<=len,.osl i k n (off+l.2.toNat) (h.2.toNat - l.2.toNat))
 | .vp i off=>
  match (ty P t).td with
  | .arr n e=>(lo=none/\hi=none/\mx=none/\(ty P e).td≠ .other/\(match hget s.h i with|some (.var cs)=>off+n*(ty P e).size<=cs.length|_=>False),.vsl i (ty P e).size off n)
  |_=>(False,.any)
 | .dp cs=>
  match (ty P t).td with
  | .arr n e=>(lo=none/\mx=none/\(ty P e).td≠ .other/\(s.bnd hi n).1/\0<=(s.bnd hi n).2/\(s.bnd hi n).2<=n/\n<=cs.length/\cs.all AV.isD=true,.d (.sl 1 ((cs.map AV.oneD).take (s.bnd hi n).2.toNat)))
  |_=>(False,.any)
 |_=>(False,.any)
def zea (P:Program) (s:AS) (t:TypeId) (x:AV):Prop×AV:=
 match x with
 | .vp i off=>(match hget s.h i with
  |some (.var cs)=>((ty P t).td≠ .other/\off+psize P t<=cs.length,apart P t cs off)
  |_=>(False,.any))
 | .tp i off=>(match hget s.h i with
  |some (.tvar _ cs)=>((ty P t).td≠ .other/\off+psize P t<=cs.length,apart P t cs off)
  |_=>(False,.any))
 | .dp cs=>((ty P t).td≠ .other/\psize P t<=cs.length,apart P t cs 0)
 | .ap i n k r off=>(match hget s.h i with
  |some (.arr k' xs)=>(k'=k/\(ty P t).td≠ .other/\xs.length=n/\r<n/\off+psize P t<=k,apart P t ((xs.getD r []).map AV.d) off)
  |_=>(False,.any))
 |_=>(False,.any)
def zg2 (P:Program) (t:TypeId) (x:AV) (f:Nat):Prop×AV:=
 match zii P t f with
 |some (off,ft)=>(match x with
  | .agg cs=>((ty P ft).td≠ .other/\off+psize P ft<=cs.length,apart P ft cs off)
  |_=>(False,.any))
 |none=>(False,.any)
def zaH (P:Program) (s:AS) (t:TypeId) (x:AV) (f:Nat):Prop×AV:=
 match zii P t f with
 |some (off,ft)=>(match x with
  | .vp i o=>((ty P ft).td≠ .other/\(ty P ft).size≠0,.vp i (o+off))
  | .tp i o=>((ty P ft).td≠ .other/\(ty P ft).size≠0,.tp i (o+off))
  | .dp cs=>((ty P ft).td≠ .other/\(ty P ft).size≠0/\off<=cs.length,.dp (cs.drop off))
  | .ap i n k r o=>(s.cur i n k/\(ty P ft).td≠ .other/\(ty P ft).size≠0,.ap i n k r (o+off))
  |_=>(False,.any))
 |none=>(False,.any)
def zaI (P:Program) (s:AS) (t:TypeId) (x y:AV):Prop×AV:=
 match y with
 | .d (.int _ j)=>(match (ty P t).td,x with
  | .arr n e,.vp i off=>((ty P e).td≠ .other/\0<=j/\j<n,.vp i (off+j.toNat*(ty P e).size))
  | .arr n e,.ap i m k r off=>(s.cur i m k/\(ty P e).td≠ .other/\0<=j/\j<n,.ap i m k r (off+j.toNat*(ty P e).size))
  | .arr n e,.dp cs=>((ty P e).td≠ .other/\0<=j/\j<n/\n*(ty P e).size<=cs.length,.dp (cs.drop (j.toNat*(ty P e).size)))
  | .slice e,.d (.sl k xs)=>((ty P e).td≠ .other/\(ty P e).size=k/\0<=j/\j<xs.length,.dp ((xs.getD j.toNat []).map AV.d))
  | .slice e,.asl k xs=>((ty P e).td≠ .other/\(ty P e).size=k/\0<=j/\j<xs.length,.dp (xs.getD j.toNat []))
  | .slice e,.osl i k n off len=>(s.cur i n k/\(ty P e).td≠ .other/\(ty P e).size=k/\0<=j/\j<len,.ap i n k (off+j.toNat) 0)
  |_,_=>(False,.any))
 |_=>(False,.any)
def zg3 (P:Program) (t:TypeId) (x y:AV):Prop×AV:=
 match y with
 | .d (.int _ j)=>(match (ty P t).td,x with
  | .arr n e,.agg cs=>((ty P e).td≠ .other/\0<=j/\j<n/\j.toNat*(ty P e).size+psize P e<=cs.length,apart P e cs (j.toNat*(ty P e).size))
  | .str,.d (.str l)=>(0<=j/\j<l.length,.d (.int .u8 ((l.getD j.toNat 0).toNat:Int)))
  |_,_=>(False,.any))
 |_=>(False,.any)
def zeu (P:Program) (src dst:TypeId) (x:AV):Prop×AV:=
 match x with
 | .d (.int _ n)=>(match (ty P dst).td with
  | .int k=>((ty P src).td≠ .other,.d (.int k (k.wrap n)))
  |_=>(False,.any))
 | .d (.str l)=>((ty P src).td= .str/\(ty P dst).td= .str,.d (.str l))
 |_=>(False,.any)
def avLen (P:Program) (s:AS) (t:TypeId) (x:AV):Prop×AV:=
 match (ty P t).td,x with
 | .arr n _,_=>(True,.d (.int .i64 n))
 | .str,.d (.str l)=>(True,.d (.int .i64 l.length))
 | .slice _,.d (.sl _ xs)=>(True,.d (.int .i64 xs.length))
 | .slice _,.asl _ xs=>(True,.d (.int .i64 xs.length))
 | .slice _,.nils _=>(True,.d (.int .i64 0))
 | .slice _,.osl i k n _ len=>(s.cur i n k,.d (.int .i64 len))
 | .slice _,.vsl _ _ _ len=>(True,.d (.int .i64 len))
 |_,_=>(False,.any)
def imin (x y:Int):Int:=if y<x then y else x
def imax (x y:Int):Int:=if y>x then y else x
def nilAV (op:BinOp) (b:Bool):Prop×AV:=
 match op with
 | .eql=>(True,.d (.bool b))
 | .neq=>(True,.d (.bool (!b)))
 |_=>(False,.any)
def abin2 (P:Program) (op:BinOp) (t:TypeId) (x y:AV):Prop×AV:=
 match x,y with
 | .agg xs,.agg ys=>
  let r:=aeq P 12 t (.agg xs) (.agg ys)
  (match op with
  | .eql=>(P.eqGuardType P.depth t=false/\r.1,.d (.bool r.2))
  | .neq=>(P.eqGuardType P.depth t=false/\r.1,.d (.bool (!r.2)))
  |_=>(False,.any))
 | .fn ..,.nilfn=>if (ty P t).td= .func then nilAV op false else (False,.any)
 | .nilfn,.nilfn=>if (ty P t).td= .func then nilAV op true else (False,.any)
 |x,y=>abin P op t x y
def zfi (P:Program) (s:AS) (c:Call):Prop×AV:=
 match c.callee with
 | .builtin .len=>(match c.args.toList,c.argTypes.toList with
  | [x],[t]=>((s.ev x).1=true/\(avLen P s t (s.ev x).2).1,(avLen P s t (s.ev x).2).2)
  |_,_=>(False,.any))
 | .builtin .min=>(match c.args.toList.map s.ev with
  | [(gx,.d (.int k a)),(gy,.d (.int _ b))]=>(gx=true/\gy=true,.d (.int k (imin a b)))
  | [(gx,.d (.int k a)),(gy,.d (.int _ b)),(gz,.d (.int _ c))]=>(gx=true/\gy=true/\gz=true,.d (.int k (imin (imin a b) c)))
  |_=>(False,.any))
 | .builtin .max=>(match c.args.toList.map s.ev with
  | [(gx,.d (.int k a)),(gy,.d (.int _ b))]=>(gx=true/\gy=true,.d (.int k (imax a b)))
  |_=>(False,.any))
 |_=>(False,.any)
def aval (P:Program) (s:AS):Op->Prop×AV
 | .binOp op t x y _=>((s.ev x).1=true/\(s.ev y).1=true/\(abin2 P op t (s.ev x).2 (s.ev y).2).1,(abin2 P op t (s.ev x).2 (s.ev y).2).2)
 | .unOp op _ x=>((s.ev x).1=true/\(aun op (s.ev x).2).1,(aun op (s.ev x).2).2)
 | .convert src dst x=>((s.ev x).1=true/\(zeu P src dst (s.ev x).2).1,(zeu P src dst (s.ev x).2).2)
 | .makeInterface t x=>((s.ev x).1=true/\(ty P t).td≠ .other/\(ty P t).td≠ .iface,.iface t (s.ev x).2)
 | .makeFunc f fs cs=>(((fs++cs).toList.all λx=>(s.ev x).1)=true,.fn f (fs.toList.map λx=>(s.ev x).2) (cs.toList.map λx=>(s.ev x).2))
 | .field t x f=>((s.ev x).1=true/\(zg2 P t (s.ev x).2 f).1,(zg2 P t (s.ev x).2 f).2)
 | .fieldAddr t x f=>((s.ev x).1=true/\(zaH P s t (s.ev x).2 f).1,(zaH P s t (s.ev x).2 f).2)
 | .indexAddr t x y=>((s.ev x).1=true/\(s.ev y).1=true/\(zaI P s t (s.ev x).2 (s.ev y).2).1,(zaI P s t (s.ev x).2 (s.ev y).2).2)
 | .index t x y=>((s.ev x).1=true/\(s.ev y).1=true/\(zg3 P t (s.ev x).2 (s.ev y).2).1,(zg3 P t (s.ev x).2 (s.ev y).2).2)
 | .slice t x lo hi mx=>((s.ev x).1=true/\(zdj P s t (s.ev x).2 lo hi mx).1,(zdj P s t (s.ev x).2 lo hi mx).2)
 | .load t x=>((s.ev x).1=true/\(zea P s t (s.ev x).2).1,(zea P s t (s.ev x).2).2)
 | .nilCheck x=>((s.ev x).1=true/\(match (s.ev x).2 with| .vp .. =>True| .tp .. =>True| .dp .. =>True| .ap i n k _ _=>s.cur i n k| .fn (.func _) _ _=>True|_=>False),(s.ev x).2)
 | .extract x i=>(match s.ev x with
  |(g,.tup vs)=>(g=true/\i<vs.length,vs.getD i .any)
  |_=>(False,.any))
 | .lookup t x y ok=>((s.ev x).1=true/\(s.ev y).1=true/\(zdq P s t (s.ev x).2 (s.ev y).2 ok).1,(zdq P s t (s.ev x).2 (s.ev y).2 ok).2)
 | .call c=>zfi P s c
 |_=>(False,.any)
open Go
section
variable {P : Program} {W : World} {E : Env} {s : AS}
theorem SatH.var (hp:SatH E s.h W) {i:Nat} {cs:List AV} (h:hget s.h i=some (.var cs)):∃b c T fz,E.O i=some b/\W.heap[b]?=some (.cells c T fz)/\Reps W E s.h cs c.toList/\zbf fz c.size:=by have:=hp.heap i _ h;simpa only [RepObj] using this
theorem SatH.tvar (hp:SatH E s.h W) {i:Nat} {t:TypeId} {cs:List AV} (h:hget s.h i=some (.tvar t cs)):∃b c T fz,E.O i=some b/\W.heap[b]?=some (.cells c T fz)/\Reps W E s.h cs c.toList/\zbf fz c.size/\T=t:=by have:=hp.heap i _ h;simpa only [RepObj] using this
theorem zlX (hp:SatH E s.h W) {t:TypeId} {x:AV} {a:Value} (hv:(zea P s t x).1) (hx:Rep W E s.h x a):
  ∃v,(Instr.loadAt t a).run P W= .ok v W/\Rep W E s.h (zea P s t x).2 v:=by
 unfold zea at hv ⊢;split at hv
 ·rename_i i off;split at hv
  ·rename_i cs hi;obtain ⟨ht,hl⟩:=hv;obtain ⟨b,c,T,fz,hO,hb,hr,_⟩:=hp.var hi;simp only [Rep] at hx;obtain ⟨b',cs',hi',hO',rfl⟩:=hx;rw [hO] at hO';cases hO';simp only [Instr.loadAt,Instr.sureAddr,Sem.run_bind,Sem.run_pure,Result.andThen_ok];have ha:At W E s.h b (0+off) cs off (psize P t):=zfG hb (by simpa [Reps.length hr ▸ List.take_length (l:=c.toList)] using hr) hl;rw [Nat.zero_add] at ha;exact zc2 ht ha hl
  ·exact hv.elim
 ·rename_i i off;split at hv
  ·rename_i tt cs hi;obtain ⟨ht,hl⟩:=hv;obtain ⟨b,c,T,fz,hO,hb,hr,_⟩:=hp.tvar hi;simp only [Rep] at hx;obtain ⟨b',t',cs',hi',hO',rfl⟩:=hx;rw [hO] at hO';cases hO';simp only [Instr.loadAt,Instr.sureAddr,Sem.run_bind,Sem.run_pure,Result.andThen_ok];have ha:At W E s.h b (0+off) cs off (psize P t):=zfG hb (by simpa [Reps.length hr ▸ List.take_length (l:=c.toList)] using hr) hl;rw [Nat.zero_add] at ha;exact zc2 ht ha hl
  ·exact hv.elim
 ·rename_i cs;obtain ⟨ht,hl⟩:=hv;simp only [Rep] at hx;obtain ⟨a,c,T,fz,rfl,hsp,_,hb,hr⟩:=hx;obtain ⟨ab,ao,asp⟩:=a;simp only at hsp hb hr;subst hsp;simp only [Instr.loadAt,Instr.sureAddr,Sem.run_bind,Sem.run_pure,Result.andThen_ok];have ha:At W E s.h ab (ao+0) cs 0 (psize P t):=zfG hb hr (by omega);exact zc2 ht ha (by omega)
 ·rename_i i n k r off;split at hv
  ·rename_i k' xs hi;obtain ⟨rfl,ht,hn,hrn,hl⟩:=hv;simp only [Rep] at hx;obtain ⟨-,xs',hi',hle,hv⟩:=hx;rw [hi] at hi';cases hi';obtain ⟨b,hO,rfl⟩:=hv hn;have hob:=hp.heap i _ hi;simp only [RepObj] at hob;rcases hob with ⟨h0,_⟩|⟨b',c,T,fz,hO',hb,hsz,hcap,hrows,_⟩
   ·rw [h0] at hO;cases hO
   ·rw [hO] at hO';cases hO';obtain ⟨hk,hrow⟩:=RepRows.get hrows (i:=r) (getD_some (d:= []) (by omega));simp only [Instr.loadAt,Instr.sureAddr,Sem.run_bind,Sem.run_pure,Result.andThen_ok];have hlen:((xs.getD r []).map AV.d).length=k':=by simpa using hk
    have ha:At W E s.h b (r*k'+off) ((xs.getD r []).map AV.d) off (psize P t):=zfG hb (by rw [hlen];exact Reps.map_d.2 hrow) (by omega);exact zc2 ht ha (by omega)
  ·exact hv.elim
 ·exact hv.elim
theorem zj1 {t:TypeId} {f off ft:Nat} (h:zii P t f=some (off,ft)):∃gs,P.underlying t=some (.struct gs)/\∃g,gs[f]?=some g/\g.offset=off/\g.type=ft:=by
 unfold zii at h;split at h
 ·rename_i fs ht;obtain ⟨gs,hg,hfs,_⟩:=zes ht;subst hfs;simp only [List.getElem?_map,Option.map_eq_some_iff] at h;obtain ⟨g,hgf,he⟩:=h;simp only [Prod.mk.injEq] at he;exact ⟨gs,hg,g,by simpa using hgf,he.1,he.2⟩
 ·cases h
theorem zp4 {t:TypeId} {x:AV} {f:Nat} {a:Value} (hv:(zg2 P t x f).1) (hx:Rep W E s.h x a):
  ∃v,(Instr.field t a f).run P W= .ok v W/\Rep W E s.h (zg2 P t x f).2 v:=by
 unfold zg2 at hv ⊢;split at hv
 ·rename_i off ft hf;obtain ⟨gs,hg,g,hgf,ho,ht⟩:=zj1 hf;split at hv
  ·simp only [Rep] at hx;obtain ⟨vs,rfl,hr⟩:=hx;subst ho ht;simp only [Instr.field,Sem.run_bind,run_underlying hg,Result.andThen_ok,hgf,asAgg,Sem.run_pure];exact zcN hv.1 hr hv.2 W
  ·exact hv.elim
 ·exact hv.elim
theorem zc6 {g:Field} {b o:Nat} (ht:(ty P g.type).td≠ .other) (hz:(ty P g.type).size≠0):(fieldPlace ⟨b,o,none⟩ g).run P W= .ok ⟨b,o+g.offset,none⟩ W:=by obtain ⟨d,hd⟩:=zb9 ht;simp [fieldPlace,zI hd,hz,Addr.add_none]
theorem zjC {t:TypeId} {x:AV} {f:Nat} {a:Value} (hv:(zaH P s t x f).1) (hx:Rep W E s.h x a):
  ∃v,(Instr.fieldAt t a f).run P W= .ok v W/\Rep W E s.h (zaH P s t x f).2 v:=by
 unfold zaH at hv ⊢;split at hv
 ·rename_i off ft hf;obtain ⟨gs,hg,g,hgf,ho,ht⟩:=zj1 hf;subst ho ht;split at hv
  ·simp only [Rep] at hx ⊢;obtain ⟨b,cs,h1,h2,rfl⟩:=hx;simp only [Instr.fieldAt,Sem.run_bind,run_underlying hg,Result.andThen_ok,hgf,Instr.sureAddr,Sem.run_pure,zc6 hv.1 hv.2];exact ⟨_,rfl,b,cs,h1,h2,rfl⟩
  ·simp only [Rep] at hx ⊢;obtain ⟨b,t',cs,h1,h2,rfl⟩:=hx;simp only [Instr.fieldAt,Sem.run_bind,run_underlying hg,Result.andThen_ok,hgf,Instr.sureAddr,Sem.run_pure,zc6 hv.1 hv.2];exact ⟨_,rfl,b,t',cs,h1,h2,rfl⟩
  ·rename_i cs;simp only [Rep] at hx ⊢;obtain ⟨a,c,T,fz,rfl,hsp,hX,hb,hr⟩:=hx;obtain ⟨ab,ao,asp⟩:=a;simp only at hsp hb hr hX;subst hsp;simp only [Instr.fieldAt,Sem.run_bind,run_underlying hg,Result.andThen_ok,hgf,Instr.sureAddr,Sem.run_pure,zc6 hv.1 hv.2.1];refine ⟨_,rfl,_,c,T,fz,rfl,rfl,hX,hb,?_⟩;have:=Reps.drop hr g.offset;rw [List.drop_take,List.drop_drop] at this;simpa using this
  ·simp only [Rep] at hx ⊢;obtain ⟨-,xs,h1,h2,h3⟩:=hx;rename_i i n k r o;obtain ⟨hc,hv1,hv2⟩:=hv;have hn:xs.length=n:=by simpa [AS.cur,h1] using hc
   obtain ⟨b,hO,rfl⟩:=h3 hn;simp only [Instr.fieldAt,Sem.run_bind,run_underlying hg,Result.andThen_ok,hgf,Instr.sureAddr,Sem.run_pure,zc6 hv1 hv2];exact ⟨_,rfl,⟨_,rfl⟩,xs,h1,h2,λ_=>⟨b,hO,by rw [Nat.add_assoc]⟩⟩
  ·exact hv.elim
 ·exact hv.elim
theorem zjD {cs:List AV} {c:Array Value} {o n:Nat} (hr:Reps W E s.h cs ((c.toList.drop o).take cs.length)):Reps W E s.h (cs.drop n) ((c.toList.drop (o+n)).take (cs.drop n).length):=by have:=Reps.drop hr n;rw [List.drop_take,List.drop_drop] at this;simpa using this
theorem zjE (hp:SatH E s.h W) {t:TypeId} {x y:AV} {a i:Value} (hv:(zaI P s t x y).1) (hx:Rep W E s.h x a) (hy:Rep W E s.h y i):
  ∃v,(Instr.indexAt t a i).run P W= .ok v W/\Rep W E s.h (zaI P s t x y).2 v:=by
 unfold zaI at hv ⊢
 split at hv
 ·rename_i k j
  simp only [Rep,RepD] at hy
  subst hy
  split at hv
  ·-- an array's variable
   rename_i n e ii off ht
   have hu:=zdM ht
   obtain ⟨he,h0,h1⟩:=hv
   obtain ⟨de,hde⟩:=zb9 he
   simp only [Rep] at hx ⊢
   obtain ⟨b,cs,h2,h3,rfl⟩:=hx
   simp only [Instr.indexAt,asIntOf,Sem.run_bind,Sem.run_pure,Result.andThen_ok,run_underlying hu,Instr.sureAddr,zI hde]
   simp only [Sem.run_ite,h0,h1,and_self,if_true,Sem.run_bind,zI hde,Result.andThen_ok,Sem.run_pure,Addr.add_none]
   exact ⟨_,rfl,b,cs,h2,h3,rfl⟩
  ·rename_i n e ii m k r off ht
   have hu:=zdM ht
   obtain ⟨hc,he,h0,h1⟩:=hv
   obtain ⟨de,hde⟩:=zb9 he
   simp only [Rep] at hx ⊢
   obtain ⟨-,xs,h2,h3,h4⟩:=hx
   obtain ⟨b,hO,rfl⟩:=h4 (by simpa [AS.cur,h2] using hc)
   simp only [Instr.indexAt,asIntOf,Sem.run_bind,Sem.run_pure,Result.andThen_ok,run_underlying hu,Instr.sureAddr,zI hde]
   simp only [Sem.run_ite,h0,h1,and_self,if_true,Sem.run_bind,zI hde,Result.andThen_ok,Sem.run_pure,Addr.add_none]
   exact ⟨_,rfl,⟨_,rfl⟩,xs,h2,h3,λ_=>⟨b,hO,by rw [Nat.add_assoc]⟩⟩
  ·rename_i n e cs ht
   have hu:=zdM ht
   obtain ⟨he,h0,h1,_⟩:=hv
   obtain ⟨de,hde⟩:=zb9 he
   simp only [Rep] at hx ⊢
   obtain ⟨a,c,T,fz,rfl,hsp,hX,hb,hr⟩:=hx
   obtain ⟨ab,ao,asp⟩:=a
   simp only at hsp hb hr hX
   subst hsp
   simp only [Instr.indexAt,asIntOf,Sem.run_bind,Sem.run_pure,Result.andThen_ok,run_underlying hu,Instr.sureAddr,zI hde]
   simp only [Sem.run_ite,h0,h1,and_self,if_true,Sem.run_bind,zI hde,Result.andThen_ok,Sem.run_pure,Addr.add_none]
   exact ⟨_,rfl,_,c,T,fz,rfl,rfl,hX,hb,zjD hr⟩
  ·rename_i e k xs ht
   have hu:=zO ht
   obtain ⟨he,hk,h0,h1⟩:=hv
   obtain ⟨de,hde⟩:=zb9 he
   simp only [Rep,RepD] at hx ⊢
   rcases hx with ⟨rfl,_⟩|⟨a,cap,c,T,fz,rfl,hsp,hcap,hX,hb,hr⟩
   ·simp at h1;omega
   obtain ⟨ab,ao,asp⟩:=a
   simp only at hsp hb hr hX
   subst hsp
   obtain ⟨hk2,hrow⟩:=RepRows.get hr (i:=j.toNat) (getD_some (d:= []) (by omega))
   simp only [Instr.indexAt,asIntOf,Sem.run_bind,Sem.run_pure,Result.andThen_ok,run_underlying hu,Instr.sureAddr,zI hde]
   simp only [Sem.run_ite,h0,h1,and_self,if_true,Sem.run_bind,zI hde,Result.andThen_ok,Sem.run_pure,Addr.add_none]
   refine ⟨_,rfl,_,c,T,fz,rfl,rfl,hX,hb,?_⟩
   rw [hk,<-List.drop_drop,List.length_map,hk2]
   exact Reps.map_d.2 hrow
  ·rename_i e k xs ht
   have hu:=zO ht
   obtain ⟨he,hk,h0,h1⟩:=hv
   obtain ⟨de,hde⟩:=zb9 he
   simp only [Rep] at hx ⊢
   obtain ⟨a,cap,c,T,fz,rfl,hsp,hcap,hX,hb,hr⟩:=hx
   obtain ⟨ab,ao,asp⟩:=a
   simp only at hsp hb hr hX
   subst hsp
   obtain ⟨hk2,hrow⟩:=RepARows.get hr (i:=j.toNat) (getD_some (d:= []) (by omega))
   simp only [Instr.indexAt,asIntOf,Sem.run_bind,Sem.run_pure,Result.andThen_ok,run_underlying hu,Instr.sureAddr,zI hde]
   simp only [Sem.run_ite,h0,h1,and_self,if_true,Sem.run_bind,zI hde,Result.andThen_ok,Sem.run_pure,Addr.add_none]
   refine ⟨_,rfl,_,c,T,fz,rfl,rfl,hX,hb,?_⟩
   rw [hk,<-List.drop_drop,hk2]
   exact hrow
  ·rename_i e ii k n off len ht
   have hu:=zO ht
   obtain ⟨hc,he,hk,h0,h1⟩:=hv
   obtain ⟨de,hde⟩:=zb9 he
   simp only [Rep] at hx ⊢
   obtain ⟨-,xs,h2,h3,h4,h5⟩:=hx
   rcases h5 (by simpa [AS.cur,h2] using hc) with ⟨⟨h6,h60⟩,rfl⟩|⟨b,hO,rfl⟩|⟨_,h7,_⟩
   ·-- the nil slice: no index is within
    omega
   ·simp only [Instr.indexAt,asIntOf,Sem.run_bind,Sem.run_pure,Result.andThen_ok,run_underlying hu,Instr.sureAddr,zI hde]
    simp only [Sem.run_ite,h0,h1,and_self,if_true,Sem.run_bind,zI hde,Result.andThen_ok,Sem.run_pure,Addr.add_none]
    exact ⟨_,rfl,⟨_,rfl⟩,xs,h2,h3,λ_=>⟨b,hO,by rw [hk,Nat.add_zero,Nat.add_mul]⟩⟩
   ·omega
  ·exact hv.elim
 ·exact hv.elim
end
open Go
section
variable {P : Program} {W : World} {E : Env} {s : AS}
theorem zp5 {t:TypeId} {x y:AV} {a i:Value} (hv:(zg3 P t x y).1) (hx:Rep W E s.h x a) (hy:Rep W E s.h y i):
  ∃v,(Instr.index t a i).run P W= .ok v W/\Rep W E s.h (zg3 P t x y).2 v:=by
 unfold zg3 at hv ⊢;split at hv
 ·rename_i k j;simp only [Rep,RepD] at hy;subst hy;split at hv
  ·rename_i n e cs ht;obtain ⟨he,h0,h1,hl⟩:=hv;obtain ⟨de,hde⟩:=zb9 he;simp only [Rep] at hx;obtain ⟨vs,rfl,hr⟩:=hx;simp only [Instr.index,asIntOf,Sem.run_bind,Sem.run_pure,Result.andThen_ok,run_underlying (zdM ht),h0,h1,and_self,if_true,zI hde];exact zcN he hr hl W
  ·rename_i l ht;obtain ⟨h0,h1⟩:=hv;simp only [Rep,RepD] at hx ⊢;subst hx;have hlt:j.toNat<l.length:=by omega
   have hg:(⟨l.toArray⟩:ByteArray)[j.toNat]?=some (l.getD j.toNat 0):=by
    have hsz:j.toNat<(⟨l.toArray⟩:ByteArray).size:=by simpa [ByteArray.size] using hlt
    rw [getElem?_pos (⟨l.toArray⟩:ByteArray) j.toNat hsz];congr 1;show (l.toArray)[j.toNat]=_;rw [List.getElem_toArray,List.getD_eq_getElem?_getD,List.getElem?_eq_getElem hlt];rfl
   simp only [Instr.index,asIntOf,Sem.run_bind,Sem.run_pure,Result.andThen_ok,run_underlying (zcy ht),h0,if_true,hg];exact ⟨_,rfl,rfl⟩
  ·exact hv.elim
 ·exact hv.elim
theorem zlY {src dst:TypeId} {x:AV} {a:Value} (hv:(zeu P src dst x).1) (hx:Rep W E s.h x a):
  ∃v,(convert src dst a).run P W= .ok v W/\Rep W E s.h (zeu P src dst x).2 v:=by
 unfold zeu at hv ⊢;split at hv
 ·rename_i k n;split at hv
  ·rename_i k' ht;obtain ⟨d,hd⟩:=zb9 hv;simp only [Rep,RepD] at hx ⊢;subst hx;simp [convert,run_underlying hd,run_underlying (zgh ht),Conv.intToInt]
  ·exact hv.elim
 ·simp only [Rep,RepD] at hx ⊢;subst hx;simp [convert,run_underlying (zcy hv.1),run_underlying (zcy hv.2)]
 ·exact hv.elim
theorem zug {t:TypeId} {x:AV} {a:Value} (hp:SatH E s.h W) (hv:(avLen P s t x).1) (hx:Rep W E s.h x a) (ts:Array TypeId) (hts:ts[0]?=some t) (o:TypeId) (args:Array Value) (ha:args[0]?=some a):
  ∃v,(Builtin.len_ ts o args).run P W= .ok v W/\Rep W E s.h (avLen P s t x).2 v:=by
 unfold avLen at hv ⊢;split at hv
 ·rename_i n e ht;simp [Builtin.len_,hts,ha,run_underlying (zdM ht),goInt,Rep,RepD]
 ·rename_i l ht;simp only [Rep,RepD] at hx;subst hx;have:(⟨l.toArray⟩:ByteArray).size=l.length:=by simp [ByteArray.size]
  simp [Builtin.len_,hts,ha,run_underlying (zcy ht),goInt,Rep,RepD,this]
 ·rename_i e k xs ht;simp only [Rep,RepD] at hx;rcases hx with ⟨rfl,p,cap,rfl⟩|⟨p,cap,c,T,fz,rfl,_⟩<;>simp [Builtin.len_,hts,ha,run_underlying (zO ht),goInt,Rep,RepD]
 ·rename_i e k xs ht;simp only [Rep] at hx;obtain ⟨p,cap,c,T,fz,rfl,_⟩:=hx;simp [Builtin.len_,hts,ha,run_underlying (zO ht),goInt,Rep,RepD]
 ·rename_i e ht;simp only [Rep] at hx;subst hx;simp [Builtin.len_,hts,ha,run_underlying (zO ht),goInt,Rep,RepD]
 ·rename_i e i k n off len ht;simp only [Rep] at hx;obtain ⟨-,xs,h2,h3,h4,h5⟩:=hx;rcases h5 (by simpa [AS.cur,h2] using hv) with ⟨⟨h6,h60⟩,rfl⟩|⟨b,hO,rfl⟩|⟨_,rfl,p,cap,rfl⟩
  ·have:len=0:=by omega
   subst this;simp [Builtin.len_,hts,ha,run_underlying (zO ht),goInt,Rep,RepD]
  ·simp [Builtin.len_,hts,ha,run_underlying (zO ht),goInt,Rep,RepD]
  ·simp [Builtin.len_,hts,ha,run_underlying (zO ht),goInt,Rep,RepD]
 ·rename_i e i k off len ht;simp only [Rep] at hx;obtain ⟨b,cs,h2,h3,h4,rfl⟩:=hx;simp [Builtin.len_,hts,ha,run_underlying (zO ht),goInt,Rep,RepD]
 ·exact hv.elim
theorem zuh {op:BinOp} {t:TypeId} {x y:AV} {a b:Value} (hv:(abin2 P op t x y).1) (hx:Rep W E s.h x a) (hy:Rep W E s.h y b) (ox oy:Operand):
  ∃v,(do eqGuard op t ox oy a b;binOp op t a b).run P W= .ok v W/\Rep W E s.h (abin2 P op t x y).2 v:=by
 unfold abin2 at hv ⊢;split at hv
 ·rename_i xs ys;have hxa:=hx;have hya:=hy;simp only [Rep] at hx hy;obtain ⟨us,rfl,hx⟩:=hx;obtain ⟨vs,rfl,hy⟩:=hy;dsimp only at hv ⊢;split at hv
  ·obtain ⟨hg,he⟩:=hv;simp only [Sem.run_bind,Go.run_eqGuard_agg _ _ _ _ _ _ _ hg,Result.andThen_ok,Go.run_eql_struct,zo3 W 12 10000 t _ _ _ _ (by omega) he hxa hya];exact ⟨_,rfl,by simp [Rep,RepD]⟩
  ·obtain ⟨hg,he⟩:=hv;simp only [Sem.run_bind,Go.run_eqGuard_agg _ _ _ _ _ _ _ hg,Result.andThen_ok,Go.run_neq_struct,zo3 W 12 10000 t _ _ _ _ (by omega) he hxa hya];exact ⟨_,rfl,by simp [Rep,RepD]⟩
  ·exact hv.elim
 ·rename_i f fs cs;simp only [Rep] at hx hy;obtain ⟨p,q,rfl,_⟩:=hx;subst hy;split at hv
  ·rename_i ht;obtain ⟨d,hd,hde⟩:=zdL ht (by simp)
   have hrun:∀w,(Op.equal t (.func f p q) .nilFunc).run P w= .ok false w:=λw=>by
    show (Op.equalIn (9999+1) t _ _).run P w=_;rw [Op.equalIn];cases d<;>simp only [tdOf] at hde<;>first|cases hde|(split at hde<;>cases hde)|skip
    simp only [Sem.run_bind,run_underlying hd,Result.andThen_ok,Sem.run_pure]
   rw [if_pos ht];cases op<;>simp only [nilAV] at hv ⊢ <;>first|exact hv.elim|skip
   all_goals simp [eqGuard,binOp,hrun,Rep,RepD]
  ·exact hv.elim
 ·simp only [Rep] at hx hy;subst hx hy;split at hv
  ·rename_i ht;obtain ⟨d,hd,hde⟩:=zdL ht (by simp)
   have hrun:∀w,(Op.equal t .nilFunc .nilFunc).run P w= .ok true w:=λw=>by
    show (Op.equalIn (9999+1) t _ _).run P w=_;rw [Op.equalIn];cases d<;>simp only [tdOf] at hde<;>first|cases hde|(split at hde<;>cases hde)|skip
    simp only [Sem.run_bind,run_underlying hd,Result.andThen_ok,Sem.run_pure]
   rw [if_pos ht];cases op<;>simp only [nilAV] at hv ⊢ <;>first|exact hv.elim|skip
   all_goals simp [eqGuard,binOp,hrun,Rep,RepD]
  ·exact hv.elim
 ·obtain ⟨v,h1,h2⟩:=zwy hv hx hy W;refine ⟨v,?_,h2⟩
  have:∀w,(eqGuard op t ox oy a b).run P w= .ok () w:=λw=>by unfold abin at hv;split at hv<;>(try exact hv.elim)<;>simp only [Rep,RepD] at hx hy<;>subst hx hy<;>cases op<;>simp [eqGuard]
  simp only [Sem.run_bind,this,Result.andThen_ok,h1]
theorem zrC {a:Act} (hs:Slots W E s a) {x:Option Operand} {d:Int} (h:(s.bnd x d).1):(x=none/\(s.bnd x d).2=d)\/(∃y k,x=some y/\a.eval y= .int k (s.bnd x d).2):=by
 unfold AS.bnd at h ⊢;cases x with
 |none=>exact .inl ⟨rfl,rfl⟩
 | some y=>
  right;simp only at h ⊢;split at h
  ·rename_i g k n he;have:=ev_ok hs y (by rw [he];exact h);rw [he] at this;simp only [Rep,RepD] at this;exact ⟨y,k,rfl,this⟩
  ·exact h.elim
theorem zax {k:IntKind} {n:Int} {y:Nat} {code:BoundsCode} (h0:0<=n) (h1:n<=y):(Instr.sliceBound (.int k n) y code).run P W= .ok n.toNat W:=by
 simp [Instr.sliceBound,asIntOf,h0,h1]
theorem zaW {a:Act} (hs:Slots W E s a) {isS:Bool} {len cap:Nat} {lo hi mx:Option Operand} (hm:mx≠none->hi≠none) {dm:Int} (hdm:mx=none->True)
  (h1:(s.bnd lo 0).1) (h2:(s.bnd hi len).1) (h3:(s.bnd mx dm).1) (h4:0<=(s.bnd lo 0).2) (h5:(s.bnd lo 0).2<=(s.bnd hi len).2) (h6:mx≠none->(s.bnd hi len).2<=(s.bnd mx dm).2/\(s.bnd mx dm).2<=cap) (h7:mx=none->(s.bnd hi len).2<=cap):
  (Instr.sliceBounds isS len cap (lo.map a.eval) (hi.map a.eval) (mx.map a.eval)).run P W= .ok ((s.bnd lo 0).2.toNat,(s.bnd hi len).2.toNat,if mx=none then cap else (s.bnd mx dm).2.toNat) W:=by
 have hb1:=zrC hs h1
 have hb2:=zrC hs h2
 have hb3:=zrC hs h3
 generalize (s.bnd lo 0).2=l at*
 generalize (s.bnd hi len).2=hh at*
 generalize (s.bnd mx dm).2=m at*
 unfold Instr.sliceBounds
 rcases hb3 with ⟨rfl,rfl⟩|⟨ym,km,rfl,em⟩
 ·-- no third bound
  have h7':=h7 rfl
  rcases hb2 with ⟨rfl,rfl⟩|⟨yh,kh,rfl,eh⟩
  ·rcases hb1 with ⟨rfl,rfl⟩|⟨yl,kl,rfl,el⟩
   ·simp
   ·simp [el,zax h4 h5]
  ·rcases hb1 with ⟨rfl,rfl⟩|⟨yl,kl,rfl,el⟩
   ·simp [eh,zax (Int.le_trans h4 h5) h7']
   ·have h5':l<=(hh.toNat:Int):=by omega
    simp [eh,el,zax (Int.le_trans h4 h5) h7',zax h4 h5']
 ·obtain ⟨h6a,h6b⟩:=h6 (by simp)
  rcases hb2 with ⟨rfl,rfl⟩|⟨yh,kh,rfl,eh⟩
  ·exact absurd rfl (hm (by simp))
  ·have hm0:0<=m:=by omega
   have h6':hh<=(m.toNat:Int):=by omega
   rcases hb1 with ⟨rfl,rfl⟩|⟨yl,kl,rfl,el⟩
   ·simp [eh,em,zax hm0 h6b,zax (Int.le_trans h4 h5) h6']
   ·have h5':l<=(hh.toNat:Int):=by omega
    simp [eh,em,el,zax hm0 h6b,zax (Int.le_trans h4 h5) h6',zax h4 h5']
theorem zns (l:List UInt8) (i j:Nat):(⟨l.toArray⟩:ByteArray).extract i j=⟨((l.take j).drop i).toArray⟩:=by apply ByteArray.ext;simp [List.extract_eq_take_drop,List.drop_take]
end
end Go.Aw
