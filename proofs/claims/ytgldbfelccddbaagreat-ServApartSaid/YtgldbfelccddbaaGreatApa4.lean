/- Lemmas. -/
import Derived.SizedLaws
import Derived.Test.YtgldbfelccddbaaGreatApa3
import Derived.ProofKit
import Derived.OpenShut
import Derived.ChangeSame
set_option linter.all false
set_option maxRecDepth 100000
set_option maxHeartbeats 2000000
namespace Go.Aw
open Go Go.RowKit Go.ChangeShapes Go.WideShapes
def DTy (P:Program):Nat→TypeId→List D→Prop
  |0,_,_=>False
  | d+1,t,xs=>
    match (ty P t).td with
    | .int k=>∃n,xs= [.int k n]∧k.min≤n∧n≤k.max
    | .bool=>∃b,xs= [.bool b]
    | .str=>∃l,xs= [.str l]∧l.length≤140737488355328
    | .slice e=>∃rows,xs= [.sl (ty P e).size rows]∧rows.length≤9223372036854775807∧∀r∈rows,DTy P d e r
    | .struct fs=>fields fs xs (fun f=>DTy P d f)
    | .arr n e=>∃parts:List (List D),xs=parts.flatten∧parts.length=n∧∀p∈parts,DTy P d e p
    |_=>False
 where
  fields (fs:List (Nat×Nat)) (xs:List D) (r:TypeId→List D→Prop):Prop:=
    match fs with
    | []=>xs= []
    |f::fs=>∃a b,xs=a++b∧r f.2 a∧fields fs b r
def plainTy (P:Program):Nat→TypeId→Bool
  |0,_=>false
  | d+1,t=>
    match (ty P t).td with
    | .int _=>true
    | .bool=>true
    | .str=>true
    | .slice e=>plainTy P d e&&decide (0<(ty P e).size)
    | .struct fs=>(offs fs 0==some (ty P t).size)&&fs.all fun f=>plainTy P d f.2
    | .arr n e=>plainTy P d e&&(n*(ty P e).size==(ty P t).size)
    |_=>false
 where
  offs:List (Nat×Nat)→Nat→Option Nat
    | [],o=>some o
    |f::fs,o=>if f.1==o then offs fs (o+(ty P f.2).size) else none
section
variable {P : Program} {W : World} {X : Nat -> Prop} {H : Type} {enc : TypeId × Value -> H}
def RepDs.append:∀ {aZ bs:List D} {vs ws:List Value},RepDs W X aZ vs->RepDs W X bs ws->RepDs W X (aZ++bs) (vs++ws)
 | [],bs,_,ws,J,hb=>by simp only [RepDs] at J;grind
 |b::aZ,bs,_,ws,J,hb=>by simp only [RepDs] at J;refine' FW;simp only [bf,RepDs];exact ⟨_,_,rfl,h2,RepDs.append h3 hb⟩
def zj7 {k} {Q:List D->Prop} :∀ (n:Nat) (vs:List Value),(∀i,i<n->∃r,Q r/\r.length=k/\RepDs W X r ((vs.drop (i*k)).take k))->∃rows:List (List D),rows.length=n/\(∀r∈rows,Q r)/\RepRows W X k rows vs
 |0,vs,_=>⟨[],rfl,fZ,mV⟩
 | n+1,vs,h=>by
  obtain ⟨r,h1,h2,J⟩:=h 0 fT
  obtain ⟨rows,g1,g2,g3⟩:=zj7 n (vs.drop k) (λi hi=>by obtain ⟨r,q1,q2,q3⟩:=h (i+1) fT;exact ⟨r,q1,q2,by rw [bc];grind⟩)
  exact ⟨r::rows,fU,fU,by simp only [RepRows];grind⟩
def zjc {k} {Q : List D → Prop} :∀ (n:Nat) (vs:List Value),vs.length=n*k→(∀i,i<n→∃r,Q r∧RepDs W X r ((vs.drop (i*k)).take k))→∃rows:List (List D),rows.length=n∧(∀r∈rows,Q r)∧RepDs W X rows.flatten vs
  | 0, vs, hl, _ => ⟨[], rfl, by simp, by have:vs= []:=by grind
                                          subst this;simp [RepDs]⟩
  | n +1,vs,hl,h=>by
    obtain ⟨r,h1,h3⟩:=h 0 fT
    obtain ⟨rows,g1,g2,g3⟩:=zjc (k:=k) n (vs.drop k) fU (fun i hi=>by
      obtain ⟨r,q1,q3⟩:=h (i+1) fT
      exact ⟨r,q1,by rw [bc];grind⟩)
    refine ⟨r::rows,fU,fU,?_⟩
    rw [cU,← bO k vs]
    exact RepDs.append fU g3
def zod {a} {n} {cs} (h:W.cells? 0 a n=some cs):cs.length=n/\∀i,i<n->W.cell? (a.add i)=cs[i]?:=by unfold World.cells? at h;rw [aa fU] at h;have h1:=mapM_some_length h;exact ⟨fU,λi hi=>mapM_some_get h i i fU⟩
def Wt (P:Program) (t:TypeId) (x:DataW H):Prop:=∀n∈DataW.weights P t x,n<=reachBytes
def zv8 {e} {n} :∀ {l:List (DataW H)} {d:DataW H},d∈l->n∈DataW.weights P e d->n∈DataW.weightsAll P e l
 | [],_,h,_=>gS
 |a::r,d,h,J=>by
  simp only [DataW.weightsAll,aS];rcases bg.1 h with rfl|h
  .grind
  .exact .inr (zv8 h J)
def zjH (hX:∀b,¬X b):∀ (d:Nat) (t:TypeId) (n:Nat) (cs:List Value) (x:DataW H×List MemPlace),plainTy P d t=true→DataW.trod enc P W 0 (fun _=>true) true n t cs=some x→Wt P t x.1→
  ∃xs,DTy P d t xs∧RepDs W X xs cs
 |0,t,n,cs,x,hp,_,_=>by simp [plainTy] at hp
 | d + 1,t,n,cs,x,hp,h,hwt=>by
  unfold plainTy at hp
  unfold DTy
  have hsz1:∀ {desc},P.underlying t=some desc→(ty P t).size=P.cellsOf t:=fun _=>rfl
  split at hp
  ·rename_i k ht
   have hu:=zhL ht
   obtain ⟨m,rfl,_,hw⟩:=DataW.trod_int hu h
   simp only [Lit.wf,aq,ax] at hw
   exact ⟨[.int k m],⟨m,rfl,hw.1,hw.2⟩,oz⟩
  ·rename_i ht
   have hu:=zg4 ht
   obtain ⟨m,rfl,_⟩:=DataW.trod_bool hu h
   exact ⟨[.bool m],⟨m,rfl⟩,oz⟩
  ·rename_i ht
   have hu:=zdr ht
   obtain ⟨m,rfl,rfl,_⟩:=DataW.trod_string hu h
   have h9:m.data.size≤140737488355328:=aD (hwt _ (by simp [DataW.weights])) gb
   exact ⟨[.str m.data.toList],⟨_,rfl,fU⟩,oz⟩
  ·rename_i e ht
   have hu:=zY ht
   simp only [aq,ax] at hp
   obtain ⟨hpe,hk⟩:=hp
   rcases DataW.trod_slice hu h with ⟨rfl,_⟩|⟨a,len,cap,elems,rest,m,rfl,rfl,rfl,_,hlc,hcap,hel,hget,_,_⟩
   ·exact ⟨[.sl (ty P e).size []],⟨[],rfl,fZ,fZ⟩,oz⟩
   ·have hce:P.cellsOf e=(ty P e).size:=rfl
    rw [hce] at hget
    have hrow:∀i,i<len→∃cs,W.cells? 0 (a.add (i*(ty P e).size)) (ty P e).size=some cs∧∃y,DataW.trod enc P W 0 (fun _=>true) true m e cs=some y∧Wt P e y.1:=fun i hi=>by
     have:=hget i hi
     rw [bk fT] at this
     obtain ⟨cs,h1,h2⟩:=Option.bind_eq_some_iff.1 this
     refine ⟨cs,h1,_,h2,fun n hn=>hwt n ?_⟩
     simp only [DataW.weights,hu,bg,aS]
     exact .inr (.inl (zv8 fU hn))
    rcases cy len with h0|h0
    ·subst h0
     exact ⟨[.sl (ty P e).size []],⟨[],rfl,fZ,fZ⟩,oz⟩
    ·-- the first cell shows the block
     obtain ⟨cs0,hc0,_⟩:=hrow 0 h0
     obtain ⟨hl0,hg0⟩:=zod hc0
     have hcell:=hg0 0 hk
     rw [dj,bk fT] at hcell
     have ha0:(a.add 0).add 0=a:=by simp [Addr.add]
     rw [ha0] at hcell
     obtain ⟨ab,ao,asp⟩:=a
     unfold World.cell? at hcell
     cases hb:W.heap[ab]? with
     |none=>grind
     | some o=>
      cases o<;>simp only [hb] at hcell<;>try cases hcell
      rename_i c T fz
      have hsp:asp=none:=by
       simp_all
      subst hsp
      obtain ⟨rows,g1,g2,g3⟩:=zj7 (W:=W) (X:=X) (k:=(ty P e).size) (Q:=DTy P d e) len (c.toList.drop ao) (fun i hi=>by
       obtain ⟨cs,h1,y,h2,h4⟩:=hrow i hi
       obtain ⟨hl,hg⟩:=zod h1
       obtain ⟨xs,q1,q2⟩:=zjH hX d e m cs y hpe h2 h4
       have hcs:cs=((c.toList.drop ao).drop (i*(ty P e).size)).take (ty P e).size:=by
        apply dk
        intro j
        by_cases hj:j<(ty P e).size
        ·have:=hg j hj
         rw [Addr.add_none,Addr.add_none,zI hb] at this
         grind
        ·grind
       exact ⟨xs,q1,by rw [← RepDs.length q2,hl],fU⟩)
      refine ⟨[.sl (ty P e).size rows],⟨rows,rfl,by rw [g1];exact aD hlc (aD hcap gb),g2⟩,?_⟩
      simp only [RepDs,RepD]
      exact ⟨_,_,rfl,.inr ⟨⟨ab,ao,none⟩,cap,c,T,fz,by rw [g1],rfl,fT,hX _,hb,g3⟩,rfl⟩
  ·rename_i fs ht
   obtain ⟨gs,hu,hgs,_⟩:=zfz ht
   simp only [aq,aF] at hp
   obtain ⟨hof,hall⟩:=hp
   obtain ⟨ys,m,rfl,rfl,hcl,hyl,hget⟩:=DataW.trod_struct hu h
   have hcl':cs.length=(ty P t).size:=hcl
   have key:∀ (l:List (Nat×Nat)) (o:Nat),plainTy.offs P l o=some (ty P t).size→(l.all fun f=>plainTy P d f.2)=true→(∀f∈l,∃y,DataW.trod enc P W 0 (fun _=>true) true m f.2 ((cs.drop f.1).take (ty P f.2).size)=some y∧Wt P f.2 y.1)→
     ∃xs,DTy.fields l xs (fun f=>DTy P d f)∧RepDs W X xs (cs.drop o):=by
    intro l
    induction l with
    |nil=>
     intro o ho _ _
     simp only [plainTy.offs,aB] at ho
     refine ⟨[],by simp [DTy.fields],?_⟩
     rw [fj fT]
     simp [RepDs]
    | cons f l ih=>
     intro o ho ha hf
     simp only [plainTy.offs] at ho
     split at ho
     ·rename_i ho1
      simp only [aF] at ho1
      simp only [bq,aq] at ha
      obtain ⟨y,hy,hy2⟩:=hf f fZ
      obtain ⟨xs,q1,q2⟩:=zjH hX d f.2 m _ y ha.1 hy hy2
      obtain ⟨zs,r1,r2⟩:=ih _ ho ha.2 fU
      refine ⟨xs++zs,⟨xs,zs,rfl,q1,r1⟩,?_⟩
      rw [ho1] at q2
      have:cs.drop o=(cs.drop o).take (ty P f.2).size++cs.drop (o+(ty P f.2).size):=by
       rw [← bc,bO]
      rw [this]
      exact RepDs.append q2 r2
     ·cases ho
   obtain ⟨xs,q1,q2⟩:=key fs 0 hof hall (fun f hf=>by
    rw [← hgs] at hf
    obtain ⟨g,hg,rfl⟩:=ba.1 hf
    obtain ⟨i,hi,hgi⟩:=List.getElem_of_mem hg
    have h1:=hget i g (by rw [← ff,bk hi,hgi])
    have hlt:i<ys.length:=fU
    rw [bk hlt] at h1
    refine ⟨_,h1,fun n hn=>hwt n ?_⟩
    simp only [DataW.weights,hu]
    exact DataW.weights_mem_each (j:=i) fU fU n hn)
   grind
  ·rename_i k e ht
   have hu:=zeR ht
   simp only [aq,aF] at hp
   obtain ⟨hpe,hsz⟩:=hp
   obtain ⟨ys,m,rfl,rfl,hcl,hyl,hget⟩:=DataW.trod_array hu h
   have hcl':cs.length=(ty P t).size:=hcl
   obtain ⟨parts,g1,g2,g3⟩:=zjc (W:=W) (X:=X) (k:=(ty P e).size) (Q:=DTy P d e) k cs fU (fun i hi=>by
    have h1:=hget i hi
    rw [bk fT] at h1
    obtain ⟨xs,q1,q2⟩:=zjH hX d e m _ _ hpe h1 (fun n hn=>hwt n (by simp only [DataW.weights,hu];exact zv8 fU hn))
    exact ⟨xs,q1,q2⟩)
   grind
  ·cases hp
end
open Go Go.RowKit Go.ChangeShapes Go.WideShapes
def argAV (P:Program) (t:TypeId) (xs:List D):AV:=
 match (ty P t).td with
 | .struct _=> .agg (xs.map .d)
 | .arr _ _=> .agg (xs.map .d)
 |_=>match xs with
  | [x]=> .d x
  |_=> .any
def DTys (P:Program):List TypeId->List (List D)->Prop
 | [],l=>l= []
 |t::ts,l=>∃x r,l=x::r/\DTy P 9 t x/\DTys P ts r
def zjd (P:Program):List TypeId->List (List D)->List AV
 |t::ts,x::r=>argAV P t x::zjd P ts r
 |_,_=> []
section
variable {H : Type} {enc : TypeId × Value -> H} {P : Program} {W : World}
def E0:Env:= { O:=λ_=>none,C:=λ_=>0,M:=λ_=>False,N:=λ_=>False }
def satH0 W:SatH E0 [] W:=⟨λi o J=>oK,λi j b h1=>mO,λb ⟨i,hi,_⟩=>gK,λ_ h=>h.elim,λ_ h=>h.elim⟩
def noX0:∀b,¬Xs E0 [] b:=λb J=>by
 rcases J with ⟨i,hi,_⟩|J|J
 .simp [hget] at hi
 .exact J
 .exact J
def zlJ {E} {h} :∀ {xs:List D} {vs:List Value},RepDs W (Xs E h) xs vs->Reps W E h (xs.map .d) vs
 | [],vs,J=>by simpa [RepDs,Reps] using J
 |x::xs,vs,J=>by simp only [RepDs] at J;refine' FW;simp only [au,Reps];exact ⟨v,r,rfl,by simpa [Rep] using h2,zlJ h3⟩
def zqq {t} {v} {r} {b} (h:Value.okWide P W r b t v) (J:∀fs,P.underlying t≠some (.struct fs)) (ha:∀n e,P.underlying t≠some (.array n e)) (hn:P.underlying t≠none):∀x,v.cells.toList= [x]->v=x:=by
 intro x hx;unfold Value.okWide at h;split at h
 .grind
 .grind
 .cases v<;>simp_all [Value.cells,Cell.okWide,Cell.ok]
def zCf {t} {v} {d} {ps} {r} {b} (hp:plainTy P 9 t=true) (hv:Value.okWide P W r b t v) (h:DataW.Trod enc P W 0 (λ_=>true) true t v d ps) (hw:Wt P t d):
  ∃xs,DTy P 9 t xs/\Rep W E0 [] (argAV P t xs) v:=by
 obtain ⟨n,hn⟩:=h;obtain ⟨xs,h1,h2⟩:=zjH (X:=Xs E0 []) noX0 9 t n _ _ hp hn hw;refine ⟨xs,h1,?_⟩;have h3:=zlJ (E:=E0) (h:= []) h2;unfold argAV
 have CC:∀x:D,xs= [x]->(∀fs,P.underlying t≠some (.struct fs))->(∀n e,P.underlying t≠some (.array n e))->P.underlying t≠none->Rep W E0 [] (.d x) v:=by rintro x rfl hs ha hn;simp only [RepDs] at h2;obtain ⟨y,r',hy,h4,rfl⟩:=h2;have:=zqq hv hs ha hn y hy;subst this;simpa [Rep] using h4
 unfold plainTy at hp;unfold DTy at h1;split at hp
 .rename_i k J;have hu:=zhL J
  grind
 .rename_i J;have hu:=zg4 J
  grind
 .rename_i J;have hu:=zdr J
  grind
 .rename_i e J;have hu:=zY J
  grind
 .rename_i fs J;obtain ⟨gs,hu,_⟩:=zfz J;simp only [J];obtain ⟨cs,rfl,_⟩:=okWide_struct hu hv;refine' Fg;exact ⟨cs,rfl,by simpa [Value.cells] using h3⟩
 .rename_i k e J;have hu:=zeR J;simp only [J];unfold Value.okWide at hv;rw [hu] at hv;obtain ⟨cs,rfl,_⟩:=hv;refine' Fg;exact ⟨cs,rfl,by simpa [Value.cells] using h3⟩
 .cases hp
def zmB {r} {b} :∀ {ts:List TypeId} {vs:List Value} {ds:List (DataW H)} {ps:List MemPlace},ts.all (plainTy P 9)=true->(∀ (j:Nat) t v,ts[j]?=some t->vs[j]?=some v->Value.okWide P W r b t v)->DataW.TrodAll enc P W 0 (λ_=>true) true ts vs ds ps->(∀ (j:Nat) t d,ts[j]?=some t->ds[j]?=some d->Wt P t d)->
  ∃jN,DTys P ts jN/\Reps W E0 [] (zjd P ts jN) vs/\ds.length=ts.length
 | [],_,_,_,_,_,h,_=>by obtain ⟨rfl,rfl,rfl⟩:=trodAll_nil h;exact ⟨[],rfl,by simp [zjd,Reps],rfl⟩
 |t::ts,_,_,_,hp,J,h,hw=>by obtain ⟨v,y2,d,y3,a,b,rfl,rfl,rfl,h1,h2⟩:=trodAll_cons h;simp only [bq,aq] at hp;obtain ⟨xs,q1,q2⟩:=zCf hp.1 (J 0 t v rfl rfl) h1 (hw 0 t d rfl rfl);obtain ⟨jN,r1,r2,r3⟩:=zmB hp.2 (λj t v ht vi=>J (j+1) t v fU fU) h2 (λj t d ht hd=>hw (j+1) t d fU fU);exact ⟨xs::jN,⟨xs,jN,rfl,q1,r1⟩,by simp only [zjd,Reps];grind,fU⟩
def zv9 {f} {args} {ts} {ds} {ps} {r} {b} (hp:ts.all (plainTy P 9)=true)
  (hv:∀ (j:Nat) t v,ts[j]?=some t->args.toList[j]?=some v->Value.okWide P W r b t v) (hA:DataW.TrodAll enc P W 0 (λ_=>true) true ts args.toList ds ps) (hw:∀ (j:Nat) t d,ts[j]?=some t->ds[j]?=some d->Wt P t d)
  (law:∀jN,DTys P ts jN->ACall P f 0 (zjd P ts jN) [] (λr _=>r= .d (.bool true))):
  Calls P f args W (λe W'=>e= .returned (.bool true)/\Below W.heap.size W W'):=by obtain ⟨jN,h1,h2,_⟩:=zmB hp hv hA hw;obtain ⟨_,hc⟩:=law jN h1;refine (hc E0 W args (satH0 W) h2).mono ?_;rintro e w' ⟨v,E',r',h',rfl,rfl,ga,gn,J⟩;refine ⟨by simp only [Rep,RepD] at gn;rw [gn],J.os,J.tape,J.output,J.size,λk hk=>J.keep k hk (λ⟨i,hi,_⟩=>gK)⟩
def zoe (J:laidOutB P=true) {W'} (hb:Below W.heap.size W W'):∀ {ts:List TypeId} {vs:List Value} {ds:List (DataW H)} {ps:List MemPlace},(∀t∈ts,P.readableRec t=true/\t<P.types.size)->DataW.TrodAll enc P W 0 (λ_=>true) true ts vs ds ps->
  DataW.TrodAll enc P W' 0 (λb=>decide (b<W.heap.size)) true ts vs ds ps
 | [],_,_,_,_,h=>by obtain ⟨rfl,rfl,rfl⟩:=trodAll_nil h;rfl
 |t::ts,_,_,_,hr,h=>by have aZ:=h.lt;obtain ⟨v,y2,d,y3,a,b,rfl,rfl,rfl,h1,h2⟩:=trodAll_cons h;exact ⟨a,b,Below.trod J (hr t fZ).1 (hr t fZ).2 h1 hb fU,zoe J hb fU h2,rfl⟩
def law_lifted {C} {os} {f} {fn} {s:ChangeSpec} {tb} {conds} (own:ownKnob C.prog.godebug=none) (started:os.Started) (y4:C.prog.inits.idxOf? f=none) (y5:C.prog.funcs[f]?=some fn)
  (witness:∃ (w:World) (tape:Tape) (i:Input),w.os=os/\(w.forCall tape i).Shaped C.prog/\i.vars= []/\Input.okWide C.prog (w.forCall tape i) .any w.heap.size f i/\
   s.pre6 enc C.prog fn conds false (w.forCall tape i).memory i.args/\({} :Assume).holds C.prog (lone (Frame.enter C.prog f i.args .normal) [] (w.forCall tape i)))
  (wx:s.vars= []) (tZ:∀ds:List (DataW H),ds.length=fn.params.toList.length->s.fn H ds= { results:= [.lit (.bool true)],args:=ds })
  (y6:fn.resultTypes= #[tb]) (ua:(ty C.prog tb).td= .bool)
  (hl:laidOutB C.prog=true) (hr:(fn.params.toList.all λt=>C.prog.readableRec t&&decide (t<C.prog.types.size))=true) (hp:fn.params.toList.all (plainTy C.prog 9)=true)
  (law:∀jN,DTys C.prog fn.params.toList jN->ACall C.prog f 0 (zjd C.prog fn.params.toList jN) [] (λr _=>r= .d (.bool true))):
  ReturnsInHanded {} C os f .any (s.pre6 enc C.prog fn conds false) (s.post enc C.prog fn false true false false):=by
 refine returnsInHanded_of_change_sized own started y4 y5 witness ?_;intro W base args ds gs before n3 hW CD gd _;have y7:=hW;obtain ⟨p,q,hA,J,rfl,mo,se⟩:=hW;rw [wx] at J
 have y8:gs= []/\q= []:=by
  cases gs with
  |nil=>exact ⟨rfl,J⟩
  |cons a b=>exact J.elim
 obtain ⟨rfl,rfl⟩:=y8
 have hw:∀ (j:Nat) t d,fn.params.toList[j]?=some t->ds[j]?=some d->Wt C.prog t d:=λj t d ht hd n hn=>by
  have h1:j<fn.params.toList.length:=(bP.1 ht).1;have:=bw.1 gd n (DataW.weights_mem_each (j:=j) fU fU n hn)
  grind
 obtain ⟨_,_,_,gw⟩:=zmB (r:= .any) (b:=base) hp fU hA hw;refine (zv9 hp (λj t v h1 h2=>n3 j t v sv (by simpa using h2)) hA hw law).mono ?_;rintro e W' ⟨rfl,hb⟩;refine ⟨_,rfl,ds,[],p++ [],[],p,[],y7,?_,?_,?_,?_,λh=>gS⟩
 .rw [y6,bm,tZ ds gw];refine ⟨[],[],⟨1,?_⟩,rfl,rfl⟩;have:=zg4 ua;simp [DataW.trod,Value.cells,this]
 .rw [bm,tZ ds gw];exact zoe hl hb fU hA
 .rw [wx,bm,tZ ds gw];rfl
 .refine World.keptBut_mono (λp' j2=>?_) (hb.frame (λ_=>False))
  grind
end
open Go
attribute [go_sem] aop aop1 isVal zff isX zaU rowsK rowsT zgF zrow aval zbu dstOk known AS.ev AS.put lk cv AV.tag zbG zfd zda AS.esOf ziA zbe zj2 zbf ziB zfA avLen zeq AV.oneD AS.bnd AS.cur nilAV abin2 abin abinI abinS aun zgC zg8 aeff fillL putL hget hset fresh top AV.cells AV.cellsOk AV.leaf AV.toD toDs zlz apart psize TD.agg ares one RetK thenK zsp za8 cxOf
@[go_sem] def zDI k n:alike (.int k) (.int k n)=true:=by simp [alike]
@[go_sem] def zDJ l:alike .str (.str l)=true:=rfl
@[go_sem] def zDv b:alike .bool (.bool b)=true:=rfl
def zoq {α β:Type} (g:α->β) (l:List α):(l.map g).take l.length=l.map g:=aA fZ
def zf0 {α:Type} (l:List α):l.take l.length=l:=aA fU
@[go_sem] def isB_bool b:(AV.d (.bool b)).isB=true:=rfl
@[go_sem] def toB_bool b:(AV.d (.bool b)).toB=b:=rfl
def zDK a b:(bif a then true else b)=(a||b):=fU
def zCg a b:(bif a then b else false)=(a&&b):=fU
attribute [go_sem] cond_true cond_false zDK zCg List.map_cons List.map_nil List.zip_cons_cons List.zip_nil_left List.cons_append List.nil_append List.append_nil List.all_cons List.all_nil List.length_cons List.length_nil List.getElem?_cons_zero List.getElem?_cons_succ List.getD_cons_zero List.getD_cons_succ List.drop_zero List.drop_succ_cons List.take_zero List.take_succ_cons List.take_nil List.drop_nil List.set_cons_zero List.set_cons_succ List.replicate_zero List.replicate_succ List.flatten_cons List.flatten_nil List.range_succ List.size_toArray Option.bind_some Option.map_some Option.getD_some Bool.and_true Bool.true_and Bool.and_self Bool.false_and Bool.and_false true_implies false_implies and_true true_and and_self if_true if_false Option.some.injEq Prod.mk.injEq beq_self_eq_true beq_true beq_false ne_eq not_false_eq_true not_true_eq_false reduceCtorEq Option.isSome_some Option.isSome_none List.getElem?_toArray Option.map_none Option.bind_none Option.getD_none Bool.not_true Bool.not_false Bool.false_eq_true Bool.or_true Bool.true_or Bool.or_false Bool.false_or decide_true decide_false imp_self implies_true Bool.not_eq_true' Bool.not_eq_false'
def frz:Nat->AHeap->AV->AV
 |0,_,a=>(match a with
  | .d x=> .d x
  |_=> .any)
 | n+1,h,a=>(match a with
  | .d x=> .d x
  | .nils k=> .d (.sl k [])
  | .agg cs=> .agg (cs.map (frz n h))
  | .tup cs=> .tup (cs.map (frz n h))
  | .dp cs=> .dp (cs.map (frz n h))
  | .fn f fs cs=> .fn f (fs.map (frz n h)) (cs.map (frz n h))
  | .asl k rows=> .asl k (rows.map (List.map (frz n h)))
  | .nilfn=> .nilfn
  | .nilmap=> .nilmap
  | .iface t v=> .iface t (frz n h v)
  | .vp i off=>(match hget h i with
   |some (.var cs)=> .dp ((cs.drop off).map (frz n h))
   |_=> .any)
  | .osl i k m off len=>(match hget h i with
   |some (.arr J xs)=>if k=J/\m=xs.length/\off+len<=m then .d (.sl k ((xs.drop off).take len)) else .any
   |_=> .any)
  |_=> .any)
mutual
def AV.scal:AV->Bool
 | .d x=>x.scal
 | .agg cs=>AV.scalL cs
 | .tup cs=>AV.scalL cs
 | .nilfn=>true
 | .nilmap=>true
 |_=>false
def AV.scalL:List AV->Bool
 | []=>true
 |x::xs=>x.scal&&AV.scalL xs
end
def Tab:=FuncId->List AV->Option (Prop×AV)
def noTab:Tab:=λ_ _=>none
structure TabOk (P:Program) (tab:Tab):Prop where
 ok:∀f args pre r,tab f args=some (pre,r)->pre->r.ids= []/\ACall P f 0 args [] (λr' _=>r'=r)
def zb P:TabOk P noTab:=⟨λ_ _ _ _ h=>gS⟩
section
variable {P : Program} {W W' : World} {E E' : Env} {h h' : AHeap}
def RepD.scal {X X'} {x} {v} (J:x.scal=true) (hr:RepD W X x v):RepD W' X' x v:=by cases x<;>simp_all [D.scal,RepD]
mutual
def Rep.scal:∀ (a:AV) (v:Value),a.scal=true->Rep W E h a v->Rep W' E' h' a v
 | .d x,v,J,hr=>by simp only [Rep,AV.scal] at*;exact RepD.scal J hr
 | .agg cs,v,J,hr=>by obtain ⟨vs,rfl,h2⟩:=hr;exact ⟨vs,rfl,Reps.scal cs _ J h2⟩
 | .tup cs,v,J,hr=>by obtain ⟨vs,rfl,h2⟩:=hr;exact ⟨vs,rfl,Reps.scal cs _ J h2⟩
 | .nilfn,v,J,hr=>vB
 | .nilmap,v,J,hr=>vB
 | .nils _,_,J,_| .dp _,_,J,_| .vp _ _,_,J,_| .ap _ _ _ _ _,_,J,_| .osl _ _ _ _ _,_,J,_| .vsl _ _ _ _,_,J,_| .asl _ _,_,J,_| .fn _ _ _,_,J,_| .any,_,J,_| .map _,_,J,_| .itr _,_,J,_| .iface _ _,_,J,_| .amap _ _,_,J,_| .raw _,_,J,_| .tp _ _,_,J,_| .bsl _ _,_,J,_=>by simp [AV.scal] at J
def Reps.scal:∀ (J:List AV) (vs:List Value),AV.scalL J=true->Reps W E h J vs->Reps W' E' h' J vs
 | [],vs,_,hr=>by simpa only [Reps] using hr
 |x::xs,vs,hs,hr=>by simp only [Reps,AV.scalL,aq] at*;obtain ⟨v,r,rfl,h2,h3⟩:=hr;exact ⟨v,r,rfl,Rep.scal x v hs.1 h2,Reps.scal xs r hs.2 h3⟩
end
def frzE (E:Env):Env:= { O:=λ_=>none,C:=λ_=>0,M:=λ_=>False,N:=λb=>E.M b\/E.N b }
def frzX {b} (J:Xs (frzE E) [] b):Xs E h b:=by rcases J with ⟨i,hi,_⟩|J|J;all_goals grind [Xs,frzE,hget]
def zwb {b} (hs:SatH E h W) (ho:Own E h b):¬Xs (frzE E) [] b:=by
 rintro (⟨i,hi,_⟩|J|J)
 .simp [hget] at hi
 .exact J.elim
 .exact J.elim (hs.own b ho).2.1 (hs.own b ho).2.2
def Reps.mapOf {f} (hf:∀a v,Rep W E h a v->Rep W E' h' (f a) v):∀ {aZ:List AV} {vs:List Value},Reps W E h aZ vs->Reps W E' h' (aZ.map f) vs
 | [],vs,J=>by simpa only [Reps,bM] using J
 |x::xs,vs,J=>by refine' FW;exact ⟨v,r,rfl,fU,Reps.mapOf hf h3⟩
def RepARows.mapOf {f} {k} (J:∀a v,Rep W E h a v->Rep W E' h' (f a) v):∀ {aZ:List (List AV)} {vs:List Value},RepARows W E h k aZ vs->RepARows W E' h' k (aZ.map (List.map f)) vs
 | [],vs,hr=>by grind [Rep,RepARows,List.map]
 |x::xs,vs,hr=>by obtain ⟨h1,h2,h3⟩:=hr;exact ⟨fU,Reps.mapOf J h2,RepARows.mapOf J h3⟩
def zwc (hs:SatH E h W):∀ (n:Nat) (a:AV) (v:Value),Rep W E h a v->Rep W (frzE E) [] (frz n h a) v:=by
 have hd:∀ (x:D) (v:Value),Rep W E h (.d x) v->Rep W (frzE E) [] (.d x) v:=λx v J=>by exact RepD.step (λ_ _=>frzX) fU x v J
 intro n;induction n with
 |zero=>
  intro a v J;cases a<;>first|exact hd _ _ J|(simp only [frz,Rep])
 | succ n ih=>
  intro a v J;have y9:∀ {aZ:List AV} {vs:List Value},Reps W E h aZ vs->Reps W (frzE E) [] (aZ.map (frz n h)) vs:=λJ=>Reps.mapOf ih J;cases a with
  |d x=>exact hd _ _ J
  |nils k=>simp only [frz,Rep,RepD] at*;grind
  |agg cs=>simp only [frz,Rep] at*;grind
  |tup cs=>simp only [frz,Rep] at*;grind
  |dp cs=>
   obtain ⟨a,c,T,fz,rfl,h2,h3,h4,h5⟩:=J;exact ⟨a,c,T,fz,rfl,h2,λhx=>h3 (frzX hx),h4,fU⟩
  |fn f fs cs=>
   simp only [frz,Rep] at*
   grind
  |asl k rows=>
   obtain ⟨a,cap,c,T,fz,rfl,h2,h3,h4,h5,h6⟩:=J;exact ⟨a,cap,c,T,fz,fZ,h2,fU,λhx=>h4 (frzX hx),h5,RepARows.mapOf ih h6⟩
  |nilfn=>simp only [frz,Rep] at*;omega
  |nilmap=>simp only [frz,Rep] at*;omega
  |iface t x=>simp only [frz,Rep] at*;grind
  | vp i off=>
   simp only [frz];split
   .rename_i cs hi;obtain ⟨b,cs',h1,h2,rfl⟩:=J;have ho:=hs.heap i _ hi;obtain ⟨b',c,T,fz,g1,g2,g3,_⟩:=ho;rw [h2] at g1;cases g1;refine ⟨⟨b,off,none⟩,c,T,fz,rfl,rfl,zwb hs ⟨i,fU,h2⟩,g2,?_⟩;have:=y9 (Reps.drop g3 off);rw [aA (by have:=Reps.length g3;grind)]
    grind
   .refine' Fg
  | osl i k m off len=>
   simp only [frz];split
   .rename_i k' xs hi;split
    .rename_i hc;obtain ⟨rfl,rfl,hle⟩:=hc;simp only [Rep,RepD] at*;refine' Hq;have ho:=hs.heap i _ hi;refine' FE
     .grind
     .rcases ho with ⟨q1,_⟩|⟨b',c,T,fz,q1,q2,q3,q4,q5,_⟩
      .grind
      .rw [g1] at q1;cases q1;refine .inr ⟨⟨b,off*k,none⟩,E.C i - off,c,T,fz,fU,rfl,fU,zwb hs ⟨i,fU,g1⟩,q2,?_⟩;exact RepRows.step (λ_ _=>frzX) fU _ _ _ ((RepRows.drop q5 off).take len)
     grind
    .refine' Fg
   .refine' Fg
  |_=>simp only [frz,Rep]
def ACall.read {f} {args} {r} {n fl} (hc:ACall P f 0 (args.map (frz n h)) [] (λr' _=>r'=r)) (lO:r.scal=true):ACallAt P fl f args h (λr' h'=>r'=r/\h'=h):=by
 obtain ⟨ix,hc⟩:=hc;refine ⟨ix,λE w vs hs hr=>?_⟩;have e1:SatH (frzE E) [] w:=⟨λi o ho=>ky,λi j b h1=>mO,λb ⟨i,hi,_⟩=>gK,λ_ h=>h.elim,λb hb=>hb.elim (hs.mlt b) (hs.nlt b)⟩
 refine (hc (frzE E) w vs e1 (Reps.mapOf (zwc hs n) hr)).mono ?_;rintro e w' ⟨v,E',r',h',rfl,rfl,ga,gn,J⟩;have lL:∀b,b<w.heap.size->w'.heap[b]?=w.heap[b]?:=λb hb=>J.keep b hb (λ⟨i,hi,_⟩=>gK);refine' G2;refine ⟨v,E,_,h,rfl,⟨rfl,rfl⟩,?_,Rep.scal _ _ lO gn,⟨J.os,J.tape,J.output,J.size,λb hb _=>lL b hb,λb hb=> .inl hb,rfl,rfl,λi _ hi=>⟨hi,GoesOn.refl E h i⟩⟩,lE⟩;refine ⟨λi o ho=>?_,hs.inj,λb hb=>⟨aE (hs.own b hb).1 J.size,(hs.own b hb).2⟩,λb hb=>aE (hs.mlt b hb) J.size,λb hb=>aE (hs.nlt b hb) J.size⟩;have:=hs.heap i o ho;have a8:∀b,E.O i=some b->b<w.heap.size:=λb hb=>(hs.own b ⟨i,fU,hb⟩).1;cases o with
 |var cs=>
  refine' DH
 |tvar tt cs=>
  refine' DH
 |arr k xs=>
  refine' Dk;refine' D6
  .grind
  .refine' Gj
 |buf tt xs=>
  refine' Dk
  grind
 |strit l p=>
  refine' Dk
  grind
 |omap es=>
  refine' Dk
  grind
mutual
def zwd:∀ (a:AV) (n:Nat) (h h':AHeap),a.ids= []->frz n h a=frz n h' a
 | .d x,n,h,h',_=>tz
 | .nils k,n,h,h',_=>tz
 | .agg cs,n,h,h',hi=>by
  cases n with
  |zero=>rfl
  |succ n=>simp only [frz];rw [zeC cs n h h' jP]
 | .tup cs,n,h,h',hi=>by
  cases n with
  |zero=>rfl
  |succ n=>simp only [frz];rw [zeC cs n h h' jP]
 | .dp cs,n,h,h',hi=>by
  cases n with
  |zero=>rfl
  |succ n=>simp only [frz];rw [zeC cs n h h' jP]
 | .fn f fs cs,n,h,h',hi=>by
  simp only [AV.ids,eH] at hi;cases n with
  |zero=>rfl
  |succ n=>simp only [frz];rw [zeC fs n h h' hi.1,zeC cs n h h' hi.2]
 | .asl k rows,n,h,h',hi=>by
  cases n with
  |zero=>rfl
  |succ n=>simp only [frz];rw [zsx rows n h h' jP]
 | .nilfn,n,h,h',_| .nilmap,n,h,h',_| .raw _,n,h,h',_| .any,n,h,h',_| .amap _ _,n,h,h',_=>tz
 | .iface t v,n,h,h',hi=>by
  cases n with
  |zero=>rfl
  |succ n=>simp only [frz];rw [zwd v n h h' jP]
 | .vp _ _,_,_,_,hi| .tp _ _,_,_,_,hi| .bsl _ _,_,_,_,hi| .ap _ _ _ _ _,_,_,_,hi| .osl _ _ _ _ _,_,_,_,hi| .vsl _ _ _ _,_,_,_,hi| .map _,_,_,_,hi| .itr _,_,_,_,hi=>by simp [AV.ids] at hi
def zeC:∀ (J:List AV) (n:Nat) (h h':AHeap),AV.idsL J= []->J.map (frz n h)=J.map (frz n h')
 | [],_,_,_,_=>rfl
 |x::xs,n,h,h',hi=>by simp only [AV.idsL,eH] at hi;simp only [au];rw [zwd x n h h' hi.1,zeC xs n h h' hi.2]
def zsx:∀ (J:List (List AV)) (n:Nat) (h h':AHeap),AV.idsR J= []->J.map (List.map (frz n h))=J.map (List.map (frz n h'))
 | [],_,_,_,_=>rfl
 |x::xs,n,h,h',hi=>by simp only [AV.idsR,eH] at hi;simp only [au];rw [zeC x n h h' hi.1,zsx xs n h h' hi.2]
end
def ACall.data {f} {args} {r} {n fl} (hc:ACall P f 0 (args.map (frz n h)) [] (λr' _=>r'=r)) (gL:AV.idsL args= []) (rU:r.ids= []):ACallAt P fl f args h (λr' h'=>r'=r/\h'=h):=by
 obtain ⟨ix,hc⟩:=hc;refine ⟨ix,λE w vs hs hr=>?_⟩
 have e1:SatH (bare (Xs E h)) [] w:=⟨λi o ho=>ky,λi j b h1=>mO,λb ⟨i,hi,_⟩=>gK,λ_ h=>h.elim,λb J=>by
  rcases J with J|J|J
  .exact (hs.own b J).1
  .exact hs.mlt b J
  .exact hs.nlt b J⟩
 have rM:∀b,b<w.heap.size->Xs (bare (Xs E h)) [] b->Xs E h b:=λb _ hx=>by
  rcases hx with ⟨i,hi,_⟩|hx|hx
  .simp [hget] at hi
  .exact hx.elim
  .exact hx
 have n6:Reps w (bare (Xs E h)) [] args vs.toList:=Reps.step rM fU _ _ fU hr;have ka:Reps w (frzE (bare (Xs E h))) [] (args.map (frz n [])) vs.toList:=Reps.mapOf (zwc e1 n) n6;rw [zeC args n [] h gL] at ka;have a8:SatH (frzE (bare (Xs E h))) [] w:=⟨λi o ho=>ky,λi j b h1=>mO,λb ⟨i,hi,_⟩=>gK,λ_ h=>h.elim,λb J=>e1.nlt b (J.elim (λh=>h.elim) id)⟩
 refine (hc _ w vs a8 ka).mono ?_;rintro e w' ⟨v,E',r',h',rfl,rfl,ga,gn,ab⟩;have lL:∀b,b<w.heap.size->w'.heap[b]?=w.heap[b]?:=λb J=>ab.keep b J (λ⟨i,hi,_⟩=>gK);refine' G2;refine ⟨v,E,_,h,rfl,⟨rfl,rfl⟩,?_,?_,⟨ab.os,ab.tape,ab.output,ab.size,λb J _=>lL b J,λb J=> .inl J,rfl,rfl,λi _ hi=>⟨hi,GoesOn.refl E h i⟩⟩,lE⟩
 .refine ⟨λi o ho=>?_,hs.inj,λb J=>⟨aE (hs.own b J).1 ab.size,(hs.own b J).2⟩,λb J=>aE (hs.mlt b J) ab.size,λb J=>aE (hs.nlt b J) ab.size⟩;have:=hs.heap i o ho;have br:∀b,E.O i=some b->b<w.heap.size:=λb J=>(hs.own b ⟨i,fU,J⟩).1;cases o with
  |var cs=>
   refine' DH
  |tvar tt cs=>
   refine' DH
  |arr k xs=>
   refine' Dk;refine' D6
   .grind
   .refine' Gj
  |buf tt xs=>
   refine' Dk
   grind
  |strit l p=>
   refine' Dk
   grind
  |omap es=>
   refine' Dk
   grind
 .refine Rep.step (E:=E') (h:=h') (λb _ hx=>?_) fU _ v fU gn;refine .inr (.inr ?_);rw [ab.n];exact .inr hx
def ACallAt.mono {f} {fl} {args} {K K'} (hc:ACallAt P fl f args h K) (hk:∀r h,K r h->K' r h):ACallAt P fl f args h K':=
 ⟨hc.1,λE w vs J hr=>(hc.2 E w vs J hr).mono λe w' ⟨v,E',r,h',h1,h2,h3⟩=>⟨v,E',r,h',h1,fU,h3⟩⟩
end
def aopS (cx:Cx) (G:Bool) (o:Oper) (K:AS->Prop) (s:AS):Prop:=
 dstOk cx.nt o.dst/\if G=true then aop1 cx o K s else K (s.put o.dst false .any)
def zeV (P:Program):Op->Bool
 | .move _=>true
 | .assign _=>true
 | .pick _ _ _=>true
 |op=>isVal P op
def aopT (cx:Cx) (tab:Tab) (G:Bool) (o:Oper) (K:AS->Prop) (s:AS):Prop:=
 match o.op with
 | .call c=>if isVal cx.P (.call c) then aop cx G o K s else
  (match zbG cx.P s c with
  |some (f,args,J)=>(match tab f (args.map (frz 9 s.h)) with
   |some (pre,r)=>dstOk cx.nt o.dst/\(G=true->J/\pre/\(r.scal=true\/AV.idsL args= []))/\K (s.put o.dst G r)
   |none=>aopS cx G o K s)
  |none=>aopS cx G o K s)
 |op=>if zeV cx.P op then aop cx G o K s else aopS cx G o K s
def aopsT (cx:Cx) (tab:Tab) (all:Array Oper):List Oper->(AS->Prop)->AS->Prop
 | [],K,s=>K s
 |o::r,K,s=>match zbu s all o.guard with
  |some G=>aopT cx tab G o (aopsT cx tab all r K) s
  |none=>False
section
variable {cx : Cx} {tab : Tab} {E : Env} {s : AS} {a : Act} {w : World}
def zdt {all} {o} {G} (hs:Slots w E s a) (J:zbu s all o.guard=some G):Region.wanted o (yielded all a.tmps)=G:=by
 unfold zbu at J;unfold Region.wanted;cases ho:o.guard with
 |none=>grind
 | some p=>
  obtain ⟨j,want⟩:=p;simp only [ho] at J |-;unfold yielded;cases hj:(all[j]?).bind (·.dst) with
  |none=>grind
  | some d=>
   simp only [hj] at J;cases hl:lk s.t d with
   |none=>grind
   | some q=>
    obtain ⟨g,v⟩:=q;obtain ⟨x,hx,hr,hu⟩:=hs d g v hl;simp only [hl] at J;simp only [fc,hx];split at J
    .rename_i g' b e;simp only [aB,aJ] at e J;refine' GA;subst J;cases g with
     |true=>
      have:=hr rfl;simp only [Rep,RepD] at this
      grind
     |false=>
      refine' I6
    .rename_i v' e;simp only [aB,aJ] at e J;refine' GA;subst J;refine' I6
    .grind
def zmH {o} {G} {K} (J:zeV cx.P o.op=false) (h:aopS cx G o K s):aop cx G o K s:=by
 obtain ⟨hd,h⟩:=h;refine ⟨hd,?_⟩;split
 .rename_i x he;rw [he] at J;cases J
 .rename_i x he;rw [he] at J;cases J
 .rename_i x y z he;rw [he] at J;cases J
 .have hv:isVal cx.P o.op=false:=by cases an:o.op<;>rw [an] at J<;>first|exact J|rfl
  grind
def zhO (ht:TabOk cx.P tab) {all} {o} {G} {K} {Q} (J:Sat cx E s a w) (hg:zbu s all o.guard=some G) (h:aopT cx tab G o K s):
  if Region.wanted o (yielded all a.tmps) then o.wpIn cx.F 0 cx.P a w (Reach cx E s.h w K) Q else (∀f,o.about cx.P w a.eval=some f->cx.F.fn f)/\Reach cx E s.h w K (a.put o.dst undef) w:=by
 unfold aopT at h;split at h
 .rename_i c an;split at h
  .exact zlG J hg h
  .rename_i lp;split at h
   .rename_i f args vc jm;split at h
    .rename_i pre r Aa;obtain ⟨hd,hv,hk⟩:=h;rw [zdt J.slots hg];cases G with
     | true=>
      obtain ⟨jb,bu,ub⟩:=hv rfl;obtain ⟨rU,hc⟩:=ht.ok _ _ _ _ Aa bu;refine zhN J hd ?_;unfold aop1;rw [an];simp only [lp,jm]
      have iB:ACallAt cx.P cx.fl f args s.h (λr' h'=>r'=r/\h'=s.h):=by
       rcases ub with lO|gL
       .exact hc.read lO
       .exact hc.data gL rU
      refine ⟨jb,iB.mono ?_⟩;simp_all
     |false=>
      exact ⟨λ_ _=>trivial,E,_,hk,J.put (λk e=>kQ) fU fU,lT⟩
    .exact zlG J hg (zmH (by rw [an];simpa [zeV] using lp) h)
   .exact zlG J hg (zmH (by rw [an];simpa [zeV] using lp) h)
 .split at h
  .exact zlG J hg h
  .rename_i hq;exact zlG J hg (zmH fU h)
def zjI (ht:TabOk cx.P tab) {all} :∀ (l:List Nat) (ops:List Oper) {K:AS->Prop} {s:AS} {E:Env} {a:Act} {w:World},l.map (all[·]?)=ops.map some->Sat cx E s a w->aopsT cx tab all ops K s->
  wpOpsIn cx.F 0 cx.P all (λe a' w'=>e= .normal/\Reach cx E s.h w K a' w') l a w
 | [],ops,K,s,E,a,w,J,hs,h=>by have:ops= []:=ig;subst this;exact ⟨rfl,zhK hs h⟩
 |i::l,[],K,s,E,a,w,J,hs,h=>fU
 | i::l,o::ops,K,s,E,a,w,J,hs,h=>by
  refine' EW;simp only [aopsT] at h;split at h
  .refine' D8
   .refine' D3;have ih:=zjI ht l ops J ab hk;refine' DI
   .refine' DW;have ih:=zjI ht l ops J ab hk;refine' DI
  .grind
def zaZ {id} {ops} {Q} tab (J:TabOk cx.P tab) (h:aopsT cx tab ops ops.toList (Q .normal) s):AW cx (.region id ops false) Q s:=λE a w hs=>
 cV (zaa _ (zjI J _ _ (zeU ops) hs h) fU)
def zj {id} {ops} {y} {Q} tab (J:TabOk cx.P tab) (h:∀K,(∀s',AW cx y Q s'->K s')->aopsT cx tab ops ops.toList K s):AW cx (.seq (.region id ops false) y) Q s:=
 zaC λK hK=>zaZ tab J (h K hK)
end
def frz_d n h x:frz n h (.d x)= .d x:=tz
def frz_nils n h k:frz (n+1) h (.nils k)= .d (.sl k []):=rfl
def zCh n h cs:frz (n+1) h (.agg cs)= .agg (cs.map (frz n h)):=rfl
def frz_tup n h cs:frz (n+1) h (.tup cs)= .tup (cs.map (frz n h)):=rfl
def frz_dp n h cs:frz (n+1) h (.dp cs)= .dp (cs.map (frz n h)):=rfl
def frz_fn n h f fs cs:frz (n+1) h (.fn f fs cs)= .fn f (fs.map (frz n h)) (cs.map (frz n h)):=rfl
def frz_asl n h k rows:frz (n+1) h (.asl k rows)= .asl k (rows.map (List.map (frz n h))):=rfl
def zDL n h:frz (n+1) h .nilfn= .nilfn:=rfl
def zDw n h:frz (n+1) h .nilmap= .nilmap:=rfl
def zwe n h t v:frz (n+1) h (.iface t v)= .iface t (frz n h v):=rfl
attribute [go_sem] frz_d frz_nils zCh frz_tup frz_dp frz_fn frz_asl zDL zDw zwe
@[go_sem] def frz_vp n h i off:frz (n+1) h (.vp i off)=(match hget h i with
   |some (.var cs)=> .dp ((cs.drop off).map (frz n h))
   |_=> .any):=rfl
@[go_sem] def frz_osl n h i k m off len:frz (n+1) h (.osl i k m off len)=(match hget h i with
   |some (.arr J xs)=>if k=J/\m=xs.length/\off+len<=m then .d (.sl k ((xs.drop off).take len)) else .any
   |_=> .any):=rfl
@[go_sem] def zDx f l:noTab f l=none:=rfl
attribute [go_sem] aopsT aopT aopS zeV AV.scal AV.scalL D.scal AV.ids AV.idsL AV.idsR
open Go
def hsel (p:Nat->Bool):AHeap->AHeap
 | []=> []
 |(i,o)::r=>if p i=true then (i,o)::hsel p r else hsel p r
def zE {p} :∀ (h:AHeap) (i:Nat),hget (hsel p h) i=if p i=true then hget h i else none
  | [],i=>by simp [hsel,hget]
  | (j,o)::r,i=>by
    simp only [hsel,hget];by_cases J:p j=true
    · simp only [J,av,hget]
      by_cases e:j=i
      · grind
      · simp only [e,aK];exact zE r i
    · simp only [J,aK,bj]
      rw [zE r i]
      grind
def zdN:∀ (a b:AHeap) (i:Nat),hget (a++b) i=(hget a i).or (hget b i)
  | [],b,i=>iJ
  | (j,o)::r,b,i=>by
    simp only [bf,hget];by_cases e:j=i
    · simp [e]
    · simp only [e,aK];exact zdN r b i
section
variable {P : Program} {w w' : World} {E E1 E2 : Env} {h h1 h2 : AHeap} {p : Nat -> Bool}
def zg9 j (J:p j=true):GoesOn E h E (hsel p h) j:=by
 unfold GoesOn;rw [zE,aa J]
 grind
def zan {b} (J:Own E (hsel p h) b):Own E h b:=by
 obtain ⟨i,hi,hb⟩:=J;rw [zE] at hi;split at hi
 .exact ⟨i,hi,hb⟩
 .grind
def zwf {b} (J:Xs E (hsel p h) b):Xs E h b:=J.imp zan id
def Closed (p:Nat->Bool) (h:AHeap):Prop:=∀i o,hget h i=some o->p i=true->∀j∈o.ids,p j=true
def zwg {a} {v} (ha:∀j∈a.ids,p j=true) (J:Rep w E h a v):Rep w E (hsel p h) a v:=
 Rep.step (λ_ _=>zwf) fU a v (λj hj=>zg9 j fU) J
def zmI {a} {v} (ha:∀j∈AV.idsL a,p j=true) (J:Reps w E h a v):Reps w E (hsel p h) a v:=
 Reps.step (λ_ _=>zwf) fU a v (λj hj=>zg9 j fU) J
def zmJ (J:SatH E h w) (hc:Closed p h):SatH E (hsel p h) w where
 heap:=λi o ho=>by
  rw [zE] at ho;split at ho
  .rename_i gJ;have:=J.heap i o ho;have c6:=hc i o ho gJ;cases o with
   |var cs=>
    refine' Dk;refine' DK;exact ⟨b,c,T,fz,g1,g2,zmI c6 g3,g4⟩
   |tvar tt cs=>
    refine' Dk;refine' DK;exact ⟨b,c,T,fz,g1,g2,zmI c6 g3,g4⟩
   |arr k xs=>
    refine' Dk;refine' Eb
    .grind
    .exact .inr ⟨b,c,T,fz,g1,g2,g3,g4,RepRows.step (λ_ _=>zwf) fU _ _ _ g5,g6⟩
   |buf tt xs=>
    refine' Dk
    grind
   |strit l q=>exact this
   |omap es=>exact this
  .cases ho
 inj:=λi j b hi hj=>by
  rw [zE] at hi hj;split at hi
  .split at hj
   .exact J.inj i j b hi hj
   .grind
  .grind
 own:=λb hb=>J.own b (zan hb)
 mlt:=J.mlt
 nlt:=J.nlt
def joinE (p:Nat->Bool) (E1 E2:Env) (M N:Nat->Prop):Env:=
 { O:=λi=>if p i=true then E1.O i else E2.O i,C:=λi=>if p i=true then E1.C i else E2.C i,M:=M,N:=N }
structure Apart (p:Nat->Bool) (E1:Env) (h1:AHeap) (E2:Env) (h2:AHeap) (M N:Nat->Prop):Prop where
 n1:∀i,(hget h1 i).isSome->p i=true
 n2:∀i,(hget h2 i).isSome->p i=false
 o1:∀b,Own E1 h1 b->E2.M b\/E2.N b
 o2:∀b,Own E2 h2 b->E1.M b\/E1.N b
 m1:∀b,M b->E1.M b\/E1.N b
 m2:∀b,M b->E2.M b\/E2.N b
 k1:∀b,N b->E1.M b\/E1.N b
 k2:∀b,N b->E2.M b\/E2.N b
section
variable {M N : Nat -> Prop}
def Apart.get1 (ap:Apart p E1 h1 E2 h2 M N) {i} (hi:p i=true):hget (h1++h2) i=hget h1 i:=by
 rw [zdN];cases e:hget h1 i with
 |some o=>rfl
 |none=>
  cases J:hget h2 i with
  |none=>rfl
  |some o=>have:=ap.n2 i fU;grind
def Apart.get2 (ap:Apart p E1 h1 E2 h2 M N) {i} (hi:p i=false):hget (h1++h2) i=hget h2 i:=by
 rw [zdN];cases e:hget h1 i with
 |some o=>have:=ap.n1 i (by simp [e]);grind
 |none=>rfl
def Apart.own (ap:Apart p E1 h1 E2 h2 M N) {b} (ho:Own (joinE p E1 E2 M N) (h1++h2) b):Own E1 h1 b\/Own E2 h2 b:=by
 obtain ⟨i,hi,J⟩:=ho;by_cases hp:p i=true
 .rw [ap.get1 hp] at hi;exact .inl ⟨i,hi,by simpa [joinE,hp] using J⟩
 .have j2:p i=false:=by grind
  rw [ap.get2 j2] at hi;exact .inr ⟨i,hi,by simpa [joinE,j2] using J⟩
def Apart.xs1 (ap:Apart p E1 h1 E2 h2 M N) {b} (J:Xs (joinE p E1 E2 M N) (h1++h2) b):Xs E1 h1 b:=by
 rcases J with J|J|J
 .rcases ap.own J with h|h
  .exact .inl h
  .exact .inr (ap.o2 b h)
 .exact .inr (ap.m1 b J)
 .exact .inr (ap.k1 b J)
def Apart.xs2 (ap:Apart p E1 h1 E2 h2 M N) {b} (J:Xs (joinE p E1 E2 M N) (h1++h2) b):Xs E2 h2 b:=by
 rcases J with J|J|J
 .rcases ap.own J with h|h
  .exact .inr (ap.o1 b h)
  .exact .inl h
 .exact .inr (ap.m2 b J)
 .exact .inr (ap.k2 b J)
def Apart.goes1 (ap:Apart p E1 h1 E2 h2 M N) i:GoesOn E1 h1 (joinE p E1 E2 M N) (h1++h2) i:=by
 unfold GoesOn;cases e:hget h1 i with
 |none=>trivial
 |some o=>
  have hp:=ap.n1 i (by simp [e]);rw [ap.get1 hp,e];cases o<;>simp [joinE,hp]
def Apart.goes2 (ap:Apart p E1 h1 E2 h2 M N) i:GoesOn E2 h2 (joinE p E1 E2 M N) (h1++h2) i:=by
 unfold GoesOn;cases e:hget h2 i with
 |none=>trivial
 |some o=>
  have hp:=ap.n2 i (by simp [e]);rw [ap.get2 hp,e];cases o<;>simp [joinE,hp]
def RepObj.move {E E'} {h h'} {i} {o} (hO:E'.O i=E.O i) (hC:E'.C i=E.C i) (hX:∀b,Xs E' h' b->Xs E h b) (hg:∀j,GoesOn E h E' h' j) (J:RepObj w E h i o):RepObj w E' h' i o:=by
 cases o with
 |var cs=>
  refine' Gv
 |tvar tt cs=>
  refine' Gv
 |arr k xs=>
  simp only [RepObj,hO,hC] at J |-;rcases J with g|⟨b,c,T,fz,g1,g2,g3,g4,g5,g6⟩
  .grind
  .exact .inr ⟨b,c,T,fz,g1,g2,g3,g4,RepRows.step fU fU _ _ _ g5,g6⟩
 |buf tt xs=>
  simp only [RepObj,hO,hC] at J |-
  grind
 |strit l q=>simp only [RepObj,hO] at J |-;omega
 |omap es=>simp only [RepObj,hO] at J |-;omega
def Apart.sat (ap:Apart p E1 h1 E2 h2 M N) (ab:SatH E1 h1 w) (eg:SatH E2 h2 w) (hM:∀b,M b->b<w.heap.size) (hN:∀b,N b->b<w.heap.size):SatH (joinE p E1 E2 M N) (h1++h2) w where
 heap:=λi o J=>by
  by_cases hp:p i=true
  .rw [ap.get1 hp] at J;exact RepObj.move (by simp [joinE,hp]) (by simp [joinE,hp]) (λ_=>ap.xs1) ap.goes1 (ab.heap i o J)
  .have j2:p i=false:=by grind
   rw [ap.get2 j2] at J;exact RepObj.move (by simp [joinE,j2]) (by simp [joinE,j2]) (λ_=>ap.xs2) ap.goes2 (eg.heap i o J)
 inj:=λi j b hi hj mc oZ=>by
  have key:∀i j,p i=true->p j=false->(hget (h1++h2) i).isSome->(hget (h1++h2) j).isSome->(joinE p E1 E2 M N).O i=some b->(joinE p E1 E2 M N).O j=some b->False:=by
   intro i j gJ gZ hi hj e1 e2;rw [ap.get1 gJ] at hi;rw [ap.get2 gZ] at hj;have o1:Own E1 h1 b:=⟨i,hi,by simpa [joinE,gJ] using e1⟩
   have o2:Own E2 h2 b:=⟨j,hj,by simpa [joinE,gZ] using e2⟩
   have:=eg.own b o2;exact (ap.o1 b o1).elim this.2.1 this.2.2
  by_cases gJ:p i=true
  .by_cases gZ:p j=true
   .rw [ap.get1 gJ] at hi;rw [ap.get1 gZ] at hj;exact ab.inj i j b hi hj (by simpa [joinE,gJ] using mc) (by simpa [joinE,gZ] using oZ)
   .grind
  .have jD:p i=false:=by grind
   by_cases gZ:p j=true
   .grind
   .have n9:p j=false:=by grind
    rw [ap.get2 jD] at hi;rw [ap.get2 n9] at hj;exact eg.inj i j b hi hj (by simpa [joinE,jD] using mc) (by simpa [joinE,n9] using oZ)
 own:=λb hb=>by
  rcases ap.own hb with J|J
  .have:=ab.own b J;exact ⟨this.1,λhm=>(ap.m1 b hm).elim this.2.1 this.2.2,λhn=>(ap.k1 b hn).elim this.2.1 this.2.2⟩
  .have:=eg.own b J;exact ⟨this.1,λhm=>(ap.m2 b hm).elim this.2.1 this.2.2,λhn=>(ap.k2 b hn).elim this.2.1 this.2.2⟩
 mlt:=hM
 nlt:=hN
end
def ACall.frame {f} {args} {fl fl'} {K} (hc:ACall P f fl args (hsel p h) K) (gy:∀i,(hget h i).isSome->i<fl) (hp:∀i,fl<=i->p i=true) (c6:Closed p h) (ha:∀j∈AV.idsL args,p j=true) (hle:fl'<=fl)
  (hk:∀r h',K r h'->(∀i,(hget h i).isSome->p i=true->(hget h' i).isSome)/\(∀i,(hget h' i).isSome->p i=true)):
  ACallAt P fl' f args h (λr h'=>∃h1,K r h1/\h'=h1++hsel (λi=> !p i) h):=by
 refine ⟨hc.1,λE w vs hs hr=>?_⟩;have ef:SatH E (hsel p h) w:=zmJ hs c6;let E1:Env:= { O:=E.O,C:=E.C,M:=E.M,N:=λb=>E.N b\/Own E (hsel (λi=> !p i) h) b }
 have ik:∀b,Own E (hsel p h) b->¬Own E (hsel (λi=> !p i) h) b:=by
  rintro b ⟨i,hi,hb⟩ ⟨j,hj,ib⟩;rw [zE] at hi hj;split at hi
  .rename_i gJ;split at hj
   .rename_i gZ;have:=hs.inj i j b hi hj hb ib
    grind
   .grind
  .grind
 have hX:∀b,Xs E1 (hsel p h) b->Xs E h b:=by
  rintro b (hx|hx|hx|hx)
  .exact .inl (zan hx)
  .exact .inr fU
  .exact .inr fU
  .exact .inl (zan hx)
 have wy:∀j,p j=true->GoesOn E h E1 (hsel p h) j:=λj hj=>by
  unfold GoesOn;rw [zE,aa hj]
  grind
 have bo:SatH E1 (hsel p h) w:=by
  refine ⟨λi o ho=>?_,ef.inj,λb hb=>?_,hs.mlt,λb hb=>?_⟩
  .have iO:=ho;rw [zE] at iO;split at iO
   .rename_i gJ;have:=hs.heap i o iO;have gL:=c6 i o iO gJ;cases o with
    |var cs=>
     refine' Dk;refine' DK;exact ⟨b,c,T,fz,g1,g2,Reps.step fU fU _ _ (λj hj=>wy j (gL j hj)) g3,g4⟩
    |tvar tt cs=>
     refine' Dk;refine' DK;exact ⟨b,c,T,fz,g1,g2,Reps.step fU fU _ _ (λj hj=>wy j (gL j hj)) g3,g4⟩
    |arr k xs=>
     refine' Dk;refine' Eb
     .grind
     .exact .inr ⟨b,c,T,fz,g1,g2,g3,g4,RepRows.step fU fU _ _ _ g5,g6⟩
    |buf tt xs=>
     refine' Dk
     grind
    |strit l q=>exact this
    |omap es=>exact this
   .grind
  .have:=ef.own b hb;exact ⟨this.1,this.2.1,λhn=>hn.elim this.2.2 (ik b hb)⟩
  .exact hb.elim (hs.nlt b) (λh=>(hs.own b (zan h)).1)
 have ka:Reps w E1 (hsel p h) args vs.toList:=Reps.step fU fU _ _ fU hr;refine (hc.2 E1 w vs bo ka).mono ?_;rintro e w' ⟨v,E',r,h',rfl,hK,ga,gn,J⟩;obtain ⟨gx,mY⟩:=hk r h' hK;obtain ⟨q,hq⟩:∃q:Nat->Bool,q=λi=> !p i:=⟨_,rfl⟩
 obtain ⟨E2,mN⟩:∃E2:Env,E2=joinE p E' E E.M E.N:=⟨_,rfl⟩
 have o3:∀i,p i=true->hget (h'++hsel (λi=> !p i) h) i=hget h' i:=λi hi=>by
  rw [zdN,zE]
  grind
 have nX:∀i,p i=false->hget (h'++hsel (λi=> !p i) h) i=hget h i:=λi hi=>by
  have hn:hget h' i=none:=by
   cases e:hget h' i with
   |none=>rfl
   |some o=>grind
  rw [zdN,zE,hn]
  grind
 have o4:∀i,p i=true->E2.O i=E'.O i/\E2.C i=E'.C i:=λi hi=>by rw [mN];simp [joinE,hi]
 have mg:∀i,p i=false->E2.O i=E.O i/\E2.C i=E.C i:=λi hi=>by rw [mN];simp [joinE,hi]
 have r2:E2.M=E.M:=by rw [mN];rfl
 have n4:E2.N=E.N:=by rw [mN];rfl
 have Ab:∀b,Own E' h' b->¬Own E (hsel (λi=> !p i) h) b:=λb hb ho=>by
  have:=(ga.own b hb).2.2;rw [J.n] at this
  grind
 have sf:∀b,Own E2 (h'++hsel (λi=> !p i) h) b->Own E' h' b\/Own E (hsel (λi=> !p i) h) b:=by
  rintro b ⟨i,hi,hb⟩;by_cases gJ:p i=true
  .rw [o3 i gJ] at hi;exact .inl ⟨i,hi,fU⟩
  .have jD:p i=false:=by grind
   rw [nX i jD] at hi;exact .inr ⟨i,by rw [zE];grind,fU⟩
 have lL:∀b,b<w.heap.size->¬Own E (hsel p h) b->w'.heap[b]?=w.heap[b]?:=λb hb ho=>J.keep b hb ho
 have sg:∀b,b<w.heap.size->Xs E2 (h'++hsel (λi=> !p i) h) b->Xs E h b:=by
  rintro b hb (hx|hx|hx)
  .rcases sf b hx with hx|hx
   .exact (J.own b hx).elim (λh=> .inl (zan h)) fU
   .exact .inl (zan hx)
  .exact .inr fU
  .exact .inr fU
 have si:∀b,b<w.heap.size->¬Xs E h b->w'.heap[b]?=w.heap[b]?:=λb hb hx=>lL b hb (λho=>hx (.inl (zan ho)))
 have uc:∀j,GoesOn E h E2 (h'++hsel (λi=> !p i) h) j:=by
  intro j;by_cases hj:(hget h j).isSome
  .by_cases gZ:p j=true
   .have wA:=(J.go j fU fU).2;unfold GoesOn at wA |-;rw [zE,aa gZ] at wA;rw [o3 j gZ,(o4 j gZ).1,(o4 j gZ).2]
    grind
   .have n9:p j=false:=by grind
    unfold GoesOn
    grind
  .unfold GoesOn
   grind
 have lE:∀x y,Rep w E h x y->Rep w' E2 (h'++hsel (λi=> !p i) h) x y:=λx y jI=>Rep.step sg si x y fU jI
 have np:∀b,Xs E2 (h'++hsel (λi=> !p i) h) b->Xs E' h' b:=by
  rintro b (hx|hx|hx)
  .rcases sf b hx with hx|hx
   .exact .inl hx
   .exact .inr (.inr (by rw [J.n];grind))
  .exact .inr (.inl (by rw [J.m];grind))
  .exact .inr (.inr (by rw [J.n];grind))
 have wB:∀j,GoesOn E' h' E2 (h'++hsel (λi=> !p i) h) j:=by
  intro j;unfold GoesOn
  grind
 have bs:∀i o,hget h i=some o->p i=false->∀b,E.O i=some b->b<w.heap.size/\¬Own E (hsel p h) b:=λi o ho gJ b hb=>⟨(hs.own b ⟨i,fU,hb⟩).1,by
  rintro ⟨j,hj,ib⟩;rw [zE] at hj;split at hj
  .rename_i gZ;have:=hs.inj i j b fU hj hb ib
   grind
  .grind⟩
 refine ⟨v,E2,r,_,rfl,⟨h',hK,rfl⟩,⟨λi o ho=>?_,λi j b hi hj mc oZ=>?_,λb hb=>?_,λb hb=>?_,λb hb=>?_⟩,?_,?_,lE⟩
 .by_cases gJ:p i=true
  .rw [o3 i gJ] at ho;exact RepObj.move (o4 i gJ).1 (o4 i gJ).2 np wB (ga.heap i o ho)
  .have jD:p i=false:=by grind
   rw [nX i jD] at ho;have:=hs.heap i o ho;have hl:=bs i o ho jD;cases o with
   |var cs=>
    refine' Hn;refine' DK;refine' Hl
   |tvar tt cs=>
    refine' Hn;refine' DK;refine' Hl
   |arr k xs=>
    simp only [RepObj,(mg i jD).1,(mg i jD).2] at this |-;refine' Eb
    .exact .inl g
    .exact .inr ⟨b,c,T,fz,g1,(lL b (hl b g1).1 (hl b g1).2).trans g2,g3,g4,RepRows.step sg si _ _ _ g5,g6⟩
   |buf tt xs=>
    simp only [RepObj,(mg i jD).1,(mg i jD).2] at this |-;refine' Eb
    .exact .inl g
    .exact .inr ⟨b,c,T,fz,g1,(lL b (hl b g1).1 (hl b g1).2).trans g2,g3,g4,g5,g6⟩
   |strit l q=>
    refine' Hn;obtain ⟨b,g1,g2⟩:=this;exact ⟨b,g1,(lL b (hl b g1).1 (hl b g1).2).trans g2⟩
   |omap es=>
    refine' Hn;obtain ⟨b,m,cl,g1,g2,g3⟩:=this;exact ⟨b,m,cl,g1,(lL b (hl b g1).1 (hl b g1).2).trans g2,g3⟩
 .have key:∀i j,p i=true->p j=false->(hget (h'++hsel (λi=> !p i) h) i).isSome->(hget (h'++hsel (λi=> !p i) h) j).isSome->E2.O i=some b->E2.O j=some b->False:=by intro i j gJ gZ hi hj e1 e2;rw [o3 i gJ] at hi;rw [nX j gZ] at hj;exact Ab b ⟨i,hi,by rw [<-(o4 i gJ).1];exact e1⟩ ⟨j,by rw [zE];simpa [gZ] using hj,by rw [<-(mg j gZ).1];exact e2⟩
  by_cases gJ:p i=true
  .by_cases gZ:p j=true
   .rw [o3 i gJ] at hi;rw [o3 j gZ] at hj;exact ga.inj i j b hi hj (by rw [<-(o4 i gJ).1];exact mc) (by rw [<-(o4 j gZ).1];exact oZ)
   .exact (key i j gJ (by simpa using gZ) hi hj mc oZ).elim
  .have jD:p i=false:=by simpa using gJ
   by_cases gZ:p j=true
   .exact (key j i gZ jD hj hi oZ mc).elim
   .have n9:p j=false:=by simpa using gZ
    rw [nX i jD] at hi;rw [nX j n9] at hj;exact hs.inj i j b hi hj (by rw [<-(mg i jD).1];exact mc) (by rw [<-(mg j n9).1];exact oZ)
 .rw [r2,n4];rcases sf b hb with ho|ho
  .have:=ga.own b ho;rw [J.m,J.n] at this;exact ⟨this.1,this.2.1,λhn=>this.2.2 (.inl hn)⟩
  .have:=hs.own b (zan ho);exact ⟨aE this.1 J.size,this.2⟩
 .rw [r2] at hb;exact aE (hs.mlt b hb) J.size
 .rw [n4] at hb;exact aE (hs.nlt b hb) J.size
 .exact Rep.step (λb _=>np b) (λ_ _ _=>rfl) r v (λj _=>wB j) gn
 .refine ⟨J.os,J.tape,J.output,J.size,λb hb ho=>lL b hb (λh=>ho (zan h)),λb hb=>?_,r2,n4,λi hi hl=>⟨?_,uc i⟩⟩
  .rcases sf b hb with ho|ho
   .exact (J.own b ho).imp zan id
   .exact .inl (zan ho)
  .by_cases gJ:p i=true
   .rw [o3 i gJ] at hl;have:=(J.go i fT hl).1;rw [zE,aa gJ] at this;exact this
   .rw [nX i (by simpa using gJ)] at hl;exact hl
def ACall.whole {f} {args} {fl fl'} {K} (hc:ACall P f fl args h K) (gy:∀i,(hget h i).isSome->i<fl) (hle:fl'<=fl) (hk:∀r h',K r h'->∀i,(hget h i).isSome->(hget h' i).isSome):ACallAt P fl' f args h K:=by
 refine ⟨hc.1,λE w vs hs hr=>(hc.2 E w vs hs hr).mono ?_⟩;rintro e w' ⟨v,E',r,h',h1,h2,h3,h4,J⟩;refine ⟨v,E',r,h',h1,h2,h3,h4,⟨J.os,J.tape,J.output,J.size,J.keep,J.own,J.m,J.n,λi hi ga=>J.go i fT ga⟩,λx y jI=>?_⟩;refine Rep.step (λb hb hx=>?_) (λb hb hx=>J.keep b hb (λho=>hx (.inl ho))) x y (λj _=>?_) jI
 .refine' Gz
  .exact (J.own b hx).elim .inl fU
  .exact .inr (.inl (by rwa [J.m] at hx))
  .exact .inr (.inr (by rwa [J.n] at hx))
 .by_cases hj:(hget h j).isSome
  .exact (J.go j fU fU).2
  .unfold GoesOn
   grind
attribute [go_sem] hsel
end
open Go
mutual
def AV.tr (f:AV->AV):AV->AV
 | .agg cs=> .agg (AV.trL f cs)
 | .tup cs=> .tup (AV.trL f cs)
 | .dp cs=> .dp (AV.trL f cs)
 | .fn g fs cs=> .fn g (AV.trL f fs) (AV.trL f cs)
 | .asl k rows=> .asl k (AV.trR f rows)
 | .iface t v=> .iface t (v.tr f)
 | .amap ks vs=> .amap ks (AV.trL f vs)
 | .d x=> .d x
 | .nils k=> .nils k
 | .nilfn=> .nilfn
 | .any=> .any
 | .nilmap=> .nilmap
 | .raw v=> .raw v
 | .vp j o=>f (.vp j o)
 | .tp j o=>f (.tp j o)
 | .bsl j n=>f (.bsl j n)
 | .ap j n k r o=>f (.ap j n k r o)
 | .osl j k m o l=>f (.osl j k m o l)
 | .vsl j k o l=>f (.vsl j k o l)
 | .map j=>f (.map j)
 | .itr j=>f (.itr j)
def AV.trL (f:AV->AV):List AV->List AV
 | []=> []
 |x::xs=>x.tr f::AV.trL f xs
def AV.trR (f:AV->AV):List (List AV)->List (List AV)
 | []=> []
 |x::xs=>AV.trL f x::AV.trR f xs
end
def AV.ref:AV->Option Nat
 | .vp j _| .tp j _| .bsl j _| .ap j _ _ _ _| .osl j _ _ _ _| .vsl j _ _ _| .map j| .itr j=>some j
 |_=>none
def onI (i:Nat) (g:AV->AV) (a:AV):AV:=if a.ref=some i then g a else a
def zwh {a:AV} {j} (h:a.ref=some j):a.ids= [j]:=by cases a<;>simp only [AV.ref,aB,reduceCtorEq] at h<;>(subst h;rfl)
def AObj.tr (f:AV->AV):AObj->AObj
 | .var cs=> .var (AV.trL f cs)
 | .tvar t cs=> .tvar t (AV.trL f cs)
 |x=>x
def htr (f:AV->AV):AHeap->AHeap
 | []=> []
 |(j,x)::r=>(j,x.tr f)::htr f r
def ttr (f:AV->AV):List (Nat×(Bool×AV))->List (Nat×(Bool×AV))
 | []=> []
 |(k,(g,v))::r=>(k,(g,v.tr f))::ttr f r
def zha f:∀cs:List AV,(AV.trL f cs).length=cs.length
 | []=>rfl
 |x::xs=>by simp [AV.trL,zha f xs]
def ziH f:∀cs:List (List AV),(AV.trR f cs).length=cs.length
 | []=>rfl
 |x::xs=>by simp [AV.trR,ziH f xs]
def zhb f:∀ (h:AHeap) (j:Nat),hget (htr f h) j=(hget h j).map (AObj.tr f)
  | [],j=>rfl
  | (k,x)::r,j=>by
    simp only [htr,hget];split
    · rfl
    · exact zhb f r j
def zeW i:∀ (h:AHeap) (j:Nat),hget (hdel h i) j=if j=i then none else hget h j
  | [],j=>by simp [hdel,hget]
  | (k,x)::r,j=>by
    simp only [hdel,hget];by_cases J:k=i
    · rw [aa J,zeW i r j]
      grind
    · rw [U J]
      simp only [hget];by_cases wC:k=j
      · grind
      · rw [U wC,U wC];exact zeW i r j
def zBB f:∀ (t:List (Nat×(Bool×AV))) (k:Nat),lk (ttr f t) k=(lk t k).map λq=>(q.1,q.2.tr f)
  | [],k=>by simp [ttr,lk]
  | (j,(g,v))::r,k=>by
    simp only [ttr,lk];by_cases e:j=k
    · grind
    · simp only [e,aK];exact zBB f r k
structure Turn (w:World) (E:Env) (h h':AHeap) (i:Nat) (g:AV->AV):Prop where
 oth:∀j,j≠i->hget h' j=(hget h j).map (AObj.tr (onI i g))
 sub:(hget h' i).isSome->(hget h i).isSome
 leaf:∀a v,a.ref=some i->Rep w E h a v->Rep w E h' (g a) v
 obj:∀o,hget h' i=some o->RepObj w E h' i o
section
variable {w : World} {E : Env} {h h' : AHeap} {i : Nat} {g : AV -> AV}
def zfC (oth:∀j,j≠i->hget h' j=(hget h j).map (AObj.tr (onI i g))) (sub:(hget h' i).isSome->(hget h i).isSome) {j} (J:(hget h' j).isSome):(hget h j).isSome:=fU
def zf1 (oth:∀j,j≠i->hget h' j=(hget h j).map (AObj.tr (onI i g))) (sub:(hget h' i).isSome->(hget h i).isSome) {b} (J:Xs E h' b):Xs E h b:=J.imp (λ⟨j,hj,hb⟩=>⟨j,fU,hb⟩) id
def zj9 (oth:∀j,j≠i->hget h' j=(hget h j).map (AObj.tr (onI i g))) j (J:j≠i):GoesOn E h E h' j:=by
 unfold GoesOn;rw [oth j J];cases e:hget h j with
 |none=>trivial
 |some x=>cases x<;>simp [AObj.tr,zha]
def Turn.own (T:Turn w E h h' i g) {b} (J:Own E h' b):Own E h b:=J.imp λ_ ⟨hj,hb⟩=>⟨zfC T.oth T.sub hj,hb⟩
def Turn.ref (T:Turn w E h h' i g) {a} {v} {j} (ha:a.ref=some j) (J:Rep w E h a v):Rep w E h' (onI i g a) v:=by
 unfold onI;split
 .rename_i e;exact T.leaf a v e J
 .rename_i e;refine Rep.step (λ_ _=>zf1 T.oth T.sub) fU a v (λl hl=>?_) J;rw [zwh ha,bp] at hl;subst hl;exact zj9 T.oth _ fU
mutual
def Turn.rep (T:Turn w E h h' i g):∀ (a:AV) (v:Value),Rep w E h a v->Rep w E h' (a.tr (onI i g)) v
 | .vp ..,v,J| .tp ..,v,J| .bsl ..,v,J| .ap ..,v,J| .osl ..,v,J| .vsl ..,v,J| .map ..,v,J| .itr ..,v,J=>T.ref rfl J
 | .agg cs,v,J=>by obtain ⟨vs,h1,h2⟩:=J;exact ⟨vs,h1,T.reps cs _ h2⟩
 | .tup cs,v,J=>by obtain ⟨vs,h1,h2⟩:=J;exact ⟨vs,h1,T.reps cs _ h2⟩
 | .dp cs,v,J=>by obtain ⟨a,c,ty,fz,h1,h2,h3,h4,h5⟩:=J;exact ⟨a,c,ty,fz,h1,h2,λhx=>h3 (zf1 T.oth T.sub hx),h4,by rw [zha];exact T.reps cs _ h5⟩
 | .fn f fs cs,v,J=>by obtain ⟨a,b,h1,h2,h3⟩:=J;exact ⟨a,b,h1,T.reps fs _ h2,T.reps cs _ h3⟩
 | .asl k rows,v,J=>by obtain ⟨a,cap,c,ty,fz,h1,h2,h3,h4,h5,h6⟩:=J;exact ⟨a,cap,c,ty,fz,by rw [ziH];exact h1,h2,by rw [ziH];exact h3,λhx=>h4 (zf1 T.oth T.sub hx),h5,T.rows k rows _ h6⟩
 | .iface t x,v,J=>by obtain ⟨y,h1,h2⟩:=J;exact ⟨y,h1,T.rep x y h2⟩
 | .amap ks vs,v,J=>by obtain ⟨b,mes,cl,g1,g2,g3,g4,g5⟩:=J;exact ⟨b,mes,cl,g1,λhx=>g2 (zf1 T.oth T.sub hx),g3,g4,T.reps vs _ g5⟩
 | .d x,v,J=>by exact RepD.step (λ_ _=>zf1 T.oth T.sub) (λ_ _ _=>rfl) x v J
 | .nils _,v,J| .nilfn,v,J| .nilmap,v,J| .raw _,v,J=>by simpa only [AV.tr,Rep] using J
 | .any,v,J=>by simp only [AV.tr,Rep]
def Turn.reps (T:Turn w E h h' i g):∀ (aZ:List AV) (vs:List Value),Reps w E h aZ vs->Reps w E h' (AV.trL (onI i g) aZ) vs
 | [],vs,J=>by simpa only [AV.trL,Reps] using J
 |x::xs,vs,J=>by obtain ⟨v,r,h1,h2,h3⟩:=J;exact ⟨v,r,h1,T.rep x v h2,T.reps xs r h3⟩
def Turn.rows (T:Turn w E h h' i g) (k:Nat):∀ (aZ:List (List AV)) (vs:List Value),RepARows w E h k aZ vs->RepARows w E h' k (AV.trR (onI i g) aZ) vs
 | [],vs,J=>by simp only [AV.trR,RepARows]
 |x::xs,vs,J=>by exact ⟨by rw [zha];exact J.1,T.reps x _ J.2.1,T.rows k xs _ J.2.2⟩
end
def Turn.sat (T:Turn w E h h' i g) (J:SatH E h w):SatH E h' w where
 heap:=λj x hx=>by
  by_cases e:j=i
  .subst e;exact T.obj x hx
  .rw [T.oth j e] at hx;obtain ⟨y,hy,rfl⟩:=bF.1 hx;have:=J.heap j y hy;cases y with
   |var cs=>
    refine' I4
   |tvar tt cs=>
    refine' I4
   |arr k xs=>
    simp only [AObj.tr,RepObj] at this |-;rcases this with g|⟨b,c,ty,fz,g1,g2,g3,g4,g5,g6⟩
    .grind
    .exact .inr ⟨b,c,ty,fz,g1,g2,g3,g4,RepRows.step (λ_ _=>zf1 T.oth T.sub) fU _ _ _ g5,g6⟩
   |buf tt xs=>
    exact this
   |strit l q=>exact this
   |omap es=>exact this
 inj:=λa b c ha hb=>J.inj a b c (zfC T.oth T.sub ha) (zfC T.oth T.sub hb)
 own:=λb hb=>J.own b (T.own hb)
 mlt:=J.mlt
 nlt:=J.nlt
def AS.tr (s:AS) (i:Nat) (g:AV->AV) (h':AHeap):AS:= { t:=ttr (onI i g) s.t,h:=h',g:=s.g }
def zsy {cx} {s} {a} (J:Sat cx E s a w) (T:Turn w E s.h h' i g) (hi:cx.fl<=i\/hget h' i=none):Sat cx E (s.tr i g h') a w/\Evo cx.fl E s.h w E h' w:=by
 refine ⟨{ slots:=λk gg v hk=>?_,nt:=J.nt,hp:=T.sat J.hp,base:=J.base,marks:=J.marks,ghost:=?_ },rfl,rfl,rfl,fU,λ_ _ _ _=>rfl,λb hb=> .inl (T.own hb),λ_ h=>h,λ_ h=> .inl h,rfl,λj a6 hj=>⟨zfC T.oth T.sub hj,zj9 T.oth j (λe=>?_)⟩⟩
 .have gR:lk (ttr (onI i g) s.t) k=some (gg,v):=hk;rw [zBB] at gR;obtain ⟨q,hq,e⟩:=bF.1 gR;obtain ⟨g',v'⟩:=q;refine' GA;obtain ⟨x,h1,h2,h3⟩:=J.slots k g' v' hq;exact ⟨x,h1,λe=>T.rep v' x (h2 e),h3⟩
 .exact cx.stab _ _ _ _ _ w _ fU (λ_ hb=> .inl (hb.imp T.own id)) (λb hb=>hb.elim (λh=>(J.hp.own b (T.own h)).1) J.marks.lt) fU rfl rfl rfl J.ghost
 grind
def zwi {cx} {c} {Q} {s} i g (hi:cx.fl<=i\/hget h' i=none) (hT:∀E w,SatH E s.h w->Turn w E s.h h' i g) (h:AW cx c Q (s.tr i g h')):AW cx c Q s:=λE a w J=>by obtain ⟨h1,h2⟩:=zsy J (hT E w J.hp) hi;exact aT (h E a w h1) (λ_ _ _ hr=>hr.trans h2)
def AV.frzd (i:Nat) (o:AObj):AV->AV
 | .osl _ k m off len=>(match o with
  | .arr J xs=>if k=J/\m=xs.length/\off+len<=m then .d (.sl k ((xs.drop off).take len)) else .any
  |_=> .any)
 | .vp _ off=>(match o with
  | .var cs=>if ((AV.idsL cs).all λl=>l !=i)=true then .dp (cs.drop off) else .any
  |_=> .any)
 | .vsl _ k off len=>(match o with
  | .arr J xs=>if k=J/\off=0/\len=xs.length then .d (.sl k xs) else .any
  |_=> .any)
 |_=> .any
def zor:∀ {cs:List AV} {n l:Nat},l∈AV.idsL (cs.drop n)->l∈AV.idsL cs
 | [],n,l,h=>fU
 |x::xs,0,l,h=>h
 |x::xs,n+1,l,h=>by simp only [AV.idsL,aS];exact .inr (zor h)
def zje {X} {k} :∀ {rows:List (List D)} {vs:List Value},(∀r∈rows,r.length=k)->RepDs w X rows.flatten (vs.take (rows.length*k))->RepRows w X k rows vs
 | [],vs,_,_=>xc
 | r::rs,vs,hk,hr=>by
  have h1:=hk r cW;simp only [cU,aC] at hr;have e:(vs.take ((rs.length+1)*k)).take k=vs.take k:=fU;have e2:(vs.take ((rs.length+1)*k)).drop k=(vs.drop k).take (rs.length*k):=by rw [cw,cm,Nat.one_mul,fk]
  have h2:=Reps.map_d (h:= []) (E:=bare X) |>.2 (RepDs.step (X':=Xs (bare X) []) (λb _ J=>by
   rcases J with ⟨i,hi,_⟩|J|J
   .simp [hget] at hi
   .exact J.elim
   .exact J) (λ_ _ _=>rfl) _ _ hr)
  rw [aG] at h2;have h3:=h2.take k;have h4:=h2.drop k;rw [dO fU,aA fU,e] at h3;rw [en fU,bQ fU,bh,e2] at h4;have hX:∀b,b<w.heap.size->X b->Xs (bare X) [] b:=λb _ J=> .inr (.inr J);exact ⟨h1,RepDs.step hX fU _ _ (Reps.map_d.1 h3),zje fU (RepDs.step hX fU _ _ (Reps.map_d.1 h4))⟩
def zqv (hs:SatH E h w) {o o'} (hi:hget h i=some o) (hv:o'=o∨∃k rows pad,o= .var (rows.flatten.map AV.d++pad)∧o'= .arr k rows∧∀r∈rows,r.length=k):Turn w E h (htr (onI i (AV.frzd i o')) (hdel h i)) i (AV.frzd i o'):=by
 have oth:∀j,j≠i→hget (htr (onI i (AV.frzd i o')) (hdel h i)) j=(hget h j).map (AObj.tr (onI i (AV.frzd i o'))):=fun j hj=>by rw [zhb,zeW,U hj]
 have hn:hget (htr (onI i (AV.frzd i o')) (hdel h i)) i=none:=by rw [zhb,zeW,aa rfl];rfl
 have sub:(hget (htr (onI i (AV.frzd i o')) (hdel h i)) i).isSome→(hget h i).isSome:=fun e=>fU
 have hX:∀b,b<w.heap.size→Xs E (htr (onI i (AV.frzd i o')) (hdel h i)) b→Xs E h b:=fun _ _=>zf1 oth sub
 have free:∀ {b:Nat},E.O i=some b→¬Xs E (htr (onI i (AV.frzd i o')) (hdel h i)) b:=fun {b} hb=>by
  have:=hs.own b ⟨i,fU,hb⟩
  rintro (⟨j,hj,hb'⟩|hx|hx)
  ·by_cases e:j=i
   ·grind
   ·exact e (hs.inj j i b fU fU hb' hb)
  all_goals grind
 refine ⟨oth,sub,fun a v ha hr=>?_,fun o ho=>fU⟩
 have hob:=hs.heap i _ hi
 cases a<;>simp only [AV.ref,aB,reduceCtorEq] at ha<;>subst ha<;>simp only [AV.frzd,Rep]
 case osl j k m off len=>
  split
  ·rename_i k' xs
   split
   ·rename_i hc
    obtain ⟨rfl,rfl,hle⟩:=hc
    simp only [Rep,RepD] at hr ⊢
    obtain ⟨_,xs',h1,_,h3,h4⟩:=hr
    rw [hi] at h1;cases h1
    cases hv.resolve_right fU
    have hlen:((xs.drop off).take len).length=len:=fU
    refine' FE
    ·grind
    ·rcases hob with ⟨q1,_⟩|⟨b',c,T,fz,q1,q2,q3,q4,q5,_⟩
     ·grind
     ·rw [g1] at q1;cases q1
      exact .inr ⟨⟨b,off*k,none⟩,E.C j - off,c,T,fz,fU,rfl,fU,free g1,q2,RepRows.step hX fU _ _ _ ((RepRows.drop q5 off).take len)⟩
    grind
   ·refine' Fg
  ·refine' Fg
 case vp j off=>
  split
  ·rename_i cs
   split
   ·rename_i hc
    obtain ⟨b,cs',g1,g2,rfl⟩:=hr
    cases hv.resolve_right fU
    obtain ⟨b',c,T,fz,q1,q2,q3,q4⟩:=hob
    rw [g2] at q1;cases q1
    have h5:=Reps.drop q3 off
    have hl:=Reps.length h5
    refine ⟨⟨b,off,none⟩,c,T,fz,rfl,rfl,free g2,q2,?_⟩
    rw [aA fU]
    exact Reps.step hX fU _ _ (fun l hl=>zj9 oth _ (by
     have:=bw.1 hc l (zor hl)
     grind)) h5
   ·refine' Fg
  ·refine' Fg
 case vsl j k off len=>
  split
  ·rename_i k' xs
   split
   ·rename_i hc
    obtain ⟨rfl,rfl,rfl⟩:=hc
    obtain ⟨b,cs',g1,g2,g3,cap,g4,rfl⟩:=hr
    rcases hv with hv|⟨_,_,pad,hv,hv',hk⟩
    ·grind
    cases hv
    cases hv'
    obtain ⟨b',c,T,fz,q1,q2,q3,q4⟩:=hob
    rw [g2] at q1;cases q1
    refine .inr ⟨⟨b,0,none⟩,cap,c,T,fz,rfl,rfl,g4,free g2,q2,RepRows.step hX fU _ _ _ (zje hk ?_)⟩
    have hfl:∀ {rows:List (List D)},(∀r∈rows,r.length=k)→rows.flatten.length=rows.length*k:=fun {rows} =>by
     induction rows with
     |nil=>simp
     |cons r rs ih=>
      grind
    have h5:=q3.take (xs.length*k)
    rw [dO fU,aA fU] at h5
    exact Reps.map_d.1 fU
   ·refine' Fg
  ·refine' Fg
end
def AS.fz (s:AS) (i:Nat) (o:AObj):AS:=s.tr i (AV.frzd i o) (htr (onI i (AV.frzd i o)) (hdel s.h i))
section
variable {cx : Cx} {c : Code} {Q : Exit -> AS -> Prop} {s : AS}
def zka {f} {h} {i} :hget (htr f (hdel h i)) i=none:=by rw [zhb,zeW,aa rfl];rfl
def zDM {E} {a} {w} {i} {o} (J:Sat cx E s a w) (hi:hget s.h i=some o):Sat cx E (s.fz i o) a w/\Evo cx.fl E s.h w E (s.fz i o).h w:=zsy J (zqv J.hp hi fU) (.inr zka)
def za0 i {o} (hi:hget s.h i=some o) (h:AW cx c Q (s.fz i o)):AW cx c Q s:=zwi i _ (.inr zka) (λ_ _ J=>zqv J hi fU) h
def zsz i k rows {pad} (hi:hget s.h i=some (.var (rows.flatten.map AV.d++pad))) (hk:∀r∈rows,r.length=k) (h:AW cx c Q (s.fz i (.arr k rows))):AW cx c Q s:=zwi i _ (.inr zka) (λ_ _ J=>zqv J hi fU) h
def AV.opnd (i n:Nat):AV->AV
 | .osl _ k m off len=>if off=0/\len=m/\m=n then .vsl i k 0 len else .any
 |_=> .any
def Reps.any {w} {E} {h} :∀vs:List Value,Reps w E h (List.replicate vs.length .any) vs
 | []=>nr
 |v::r=>by exact ⟨v,r,rfl,by simp only [Rep],Reps.any r⟩
def zjf {w} {X} {E} {h} {k} (hX:∀b,b<w.heap.size->Xs E h b->X b):∀ {rows:List (List D)} {vs:List Value},RepRows w X k rows vs->rows.length*k<=vs.length->∃m,Reps w E h (rows.flatten.map AV.d++List.replicate m .any) vs/\rows.flatten.length=rows.length*k
 | [],vs,_,_=>⟨vs.length,by simpa using Reps.any vs,fZ⟩
 |r::rs,vs,J,hl=>by obtain ⟨h1,h2,h3⟩:=J;rw [aC,cm,Nat.one_mul] at hl;obtain ⟨m,h4,h5⟩:=zjf hX h3 fU;refine ⟨m,?_,fU⟩;rw [cU,aG,aY];have:=Reps.append (Reps.map_d.2 (RepDs.step hX fU _ _ h2)) h4;simp_all
def zwj i {k} {xs} (hi:hget s.h i=some (.arr k xs)) (hne:0<xs.length) (hlt:xs.length<9223372036854775808) (hfl:cx.fl≤i) (h:∀m,AW cx c Q (s.tr i (AV.opnd i xs.length) ((i,.var (xs.flatten.map AV.d++List.replicate m .any))::htr (onI i (AV.opnd i xs.length)) (hdel s.h i)))):AW cx c Q s:=fun E a w hs=>by
 have hob:=hs.hp.heap i _ hi
 rcases hob with ⟨_,h1⟩|⟨b,c',T,fz,g1,g2,g3,g4,g5,g6⟩
 ·rcases h1 with rfl|h1
  ·grind
  ·simp only [zhJ] at h1;omega
 have oth:∀ (cs:List AV) j,j≠i→hget ((i,.var cs)::htr (onI i (AV.opnd i xs.length)) (hdel s.h i)) j=(hget s.h j).map (AObj.tr (onI i (AV.opnd i xs.length))):=fun cs j hj=>by simp only [hget];rw [U fU,zhb,zeW,U hj]
 have sub:∀cs,(hget ((i,.var cs)::htr (onI i (AV.opnd i xs.length)) (hdel s.h i)) i).isSome→(hget s.h i).isSome:=fun _ _=>fU
 have hsz:xs.length*k≤c'.toList.length:=by
  have:=cC k g4
  grind
 obtain ⟨m,h4,h5⟩:=zjf (E:=E) (h:=(i,.var (xs.flatten.map AV.d++ []))::htr (onI i (AV.opnd i xs.length)) (hdel s.h i)) (fun b _ hx=>zf1 (oth _) (sub _) hx) g5 hsz
 have hT:Turn w E s.h ((i,.var (xs.flatten.map AV.d++List.replicate m .any))::htr (onI i (AV.opnd i xs.length)) (hdel s.h i)) i (AV.opnd i xs.length):=by
  refine ⟨oth _,sub _,fun a v ha hr=>?_,fun o ho=>?_⟩
  ·cases a<;>simp only [AV.ref,aB,reduceCtorEq] at ha<;>subst ha<;>simp only [AV.opnd,Rep]
   case osl j k' mm off len=>
    split
    ·rename_i hc
     obtain ⟨rfl,rfl,rfl⟩:=hc
     obtain ⟨_,xs',h1,_,_,h6⟩:=hr
     rw [hi] at h1;cases h1
     refine ⟨b,xs.flatten.map AV.d++List.replicate m .any,by simp only [hget,av],g1,fU,?_⟩
     grind
    ·refine' Fg
  ·simp only [hget,av,aB] at ho
   subst ho
   refine ⟨b,c',T,fz,g1,g2,?_,g6⟩
   refine Reps.step (fun b _ hx=>?_) fU _ _ (fun j hj=>?_) h4
   ·refine hx.imp (fun ⟨j,hj,hb⟩=>⟨j,?_,hb⟩) id
    simp only [hget] at hj ⊢
    grind
   ·exfalso
    have hz:∀ (l:List D) (n:Nat),AV.idsL (l.map AV.d++List.replicate n .any)= []:=fun l n=>by
     induction l with
     |nil=>induction n with
      |zero=>rfl
      |succ n ih=>simpa [dq,AV.idsL,AV.ids] using ih
     |cons x l ih=>simpa [AV.idsL,AV.ids] using ih
    grind
 obtain ⟨q1,q2⟩:=zsy hs hT fU
 exact aT (h m E a w q1) (fun _ _ _ hr=>hr.trans q2)
def zaI {cx} {c} {Q} {s} t k (hk:lk s.t t=some (true,.nils k)) (h:AW cx c Q { s with t:=(t,(true,.osl (fresh cx.fl s.h) k 0 0 0))::s.t,h:=(fresh cx.fl s.h,.arr k [])::s.h }):AW cx c Q s:=λE a w hs=>by
  have cc:Chg E s.h w (E.set (fresh cx.fl s.h) none 0) ((fresh cx.fl s.h,.arr k [])::s.h) w (fresh cx.fl s.h):=
    { os:=rfl,tape:=rfl,output:=rfl,size:=aj _,envO:=λj e=>gY,envC:=λj e=>gY,M:=rfl,N:=rfl,hh:=λj e=>kT,
      gi:=mK
      blk:=λb hb _=>rfl
      new:=λb _ hb=>by simp [Env.set] at hb }
  have J:=cc.sat (t:=s.t) (g:=s.g) hs (λo ho=>by refine' DD;exact .inl ⟨gM,fU⟩)
  refine' Jc;refine aT (h _ a w ⟨λj g v hj=>?_,J.nt,J.hp,J.base,J.marks,J.ghost⟩) (λ_ _ _ hr=>hr.trans (cc.evo (.inr (zbg _ _))));simp only [lk] at hj;split at hj
  · rename_i e;subst e
    obtain ⟨rfl,rfl⟩:=hj;refine ⟨_,h1,λ_=>?_,λe=>gN⟩;refine' Fg;exact ⟨⟨_,_,_,rfl⟩,[],iJ,fZ,fZ,λ_=> .inl ⟨gM,trivial⟩⟩
  · exact J.slots j g v hj
def zeX {cx} {c} {Q} {s} i o k {cs} (hi:hget s.h i=some (.var cs)) (ho:cs[o]?=some (.nils k))
    (h:AW cx c Q { s with h:=(fresh cx.fl s.h,.arr k [])::hset s.h i (.var (cs.set o (.osl (fresh cx.fl s.h) k 0 0 0))) }):AW cx c Q s:=λE a w hs=>by
  have b5:fresh cx.fl s.h≠i:=λe=>by
    have:=zcj cx.fl s.h
    grind
  have cc:Chg E s.h w (E.set (fresh cx.fl s.h) none 0) ((fresh cx.fl s.h,.arr k [])::s.h) w (fresh cx.fl s.h):=
    { os:=rfl,tape:=rfl,output:=rfl,size:=aj _,envO:=λj e=>gY,envC:=λj e=>gY,M:=rfl,N:=rfl,hh:=λj e=>kT,
      gi:=mK
      blk:=λb hb _=>rfl
      new:=λb _ hb=>by simp [Env.set] at hb }
  have J:=cc.sat (t:=s.t) (g:=s.g) hs (λo ho=>by refine' DD;exact .inl ⟨gM,fU⟩)
  have ia:hget ((fresh cx.fl s.h,.arr k [])::s.h) i=some (.var cs):=by simp [hget,b5,hi]
  have e1:(fresh cx.fl s.h,AObj.arr k [])::hset s.h i (.var (cs.set o (.osl (fresh cx.fl s.h) k 0 0 0)))=hset ((fresh cx.fl s.h,.arr k [])::s.h) i (.var (cs.set o (.osl (fresh cx.fl s.h) k 0 0 0))):=by simp [hset,b5]
  refine' EX;obtain ⟨b,c',T,fz,g1,g2,g3,g4⟩:=J.hp.var ia;have ch:=zqh (w:=w) J.hp ia (cs':=cs.set o (.osl (fresh cx.fl s.h) k 0 0 0)) fZ g1 (.cells c' T fz)
  have ab:World.row w b (.cells c' T fz)=w:=by obtain ⟨aZ,ib⟩:=aI.1 g2;unfold World.row;rw [<-ib,ez,dif_pos aZ,eA]
  rw [ab] at ch
  have eg:=ch.sat (t:=s.t) (g:=s.g) J (λob ec=>by
    rw [zi ia] at ec;cases ec;refine ⟨b,c',T,fz,g1,g2,?_,g4⟩;have h3:=ch.reps g3;obtain ⟨v,hv,hr⟩:=Reps.get g3 ho
    have hset:=h3.set (i:=o) (a:= .osl (fresh cx.fl s.h) k 0 0 0) (v:= .slice none 0 0) (by refine' Fg;refine' H6;rw [zS fU];simp [hget])
    subst hr
    have:c'.toList.set o (.slice none 0 0)=c'.toList:=by
      apply dk
      grind
    grind)
  rw [<-e1] at eg ch;refine aT (h E1 a w eg) (λ_ _ _ hr=>hr.trans ((cc.evo (.inr (zbg _ _))).trans (ch.evo fU)))
def zhc {p} :∀ {h:AHeap},(∀q∈h,p q.1=true)->hsel p h=h
  | [],_=>rfl
  | (k,o)::r,hh=>by simp only [hsel];rw [aa ig,zhc fU]
end
attribute [go_sem] AS.fz AS.tr ttr htr hdel AObj.tr AV.tr AV.trL AV.trR AV.ref onI AV.frzd AV.opnd List.all_nil List.all_cons List.all_append
open Go
structure Yo (P:Program) (items:List (List AV)) where
 yl:Nat
 G:Option (List (List AV))->(Nat->Prop)->(Nat->Prop)->(Nat->Prop)->World->Prop
 stab:∀g M N A A' w w',(∀b,b<w.heap.size->¬A b->w'.heap[b]?=w.heap[b]?)->(∀b,A' b->A b\/w.heap.size<=b)->(∀b,A' b->b<w'.heap.size)->w.heap.size<=w'.heap.size->w'.tape=w.tape->w'.os=w.os->w'.output=w.output->G g M N A w->G g M N A' w'
 yok:∀xs x X M N A w (vs:Array Value),G (some xs) M N A w->(∀b,M b\/N b\/A b->X b)->Reps w (bare X) [] x vs.toList->(xs++ [x])<+:items->
  zmr P yl vs w (λe w'=>∃b M',e= .returned (.bool b)/\w'.os=w.os/\w'.tape=w.tape/\w'.output=w.output/\w.heap.size<=w'.heap.size/\(∀k,k<w.heap.size->¬M k->w'.heap[k]?=w.heap[k]?)/\
   (∀k,M k->M' k)/\(∀k,M' k->M k\/(w.heap.size<=k/\k<w'.heap.size))/\G (if b=true then some (xs++ [x]) else none) M' N A w')
def cxY (P:Program) {items:List (List AV)} (base nt fl:Nat) (y:Yo P items) (rq:Bool:=false):Cx:= { P:=P,ro:=none,base:=base,nt:=nt,fl:=fl,rq:=rq,G:=y.G,stab:=y.stab,yl:=y.yl,items:=items,yok:=y.yok }
def AIter (P:Program) (f:FuncId) (fl:Nat) (pre caps:List AV) (h:AHeap) (items:List (List AV)) (K:Option (List (List AV))->AHeap->Prop):Prop:=
 zfe P f/\∀ (y:Yo P items) E w (us vs:Array Value),SatH E h w->Reps w E h pre us.toList->Reps w E h caps vs.toList->y.G (some []) E.M E.N (Own E h) w->
  Calls P f (us++ #[Value.func (.yield y.yl) #[] #[]]++vs) w (λe w'=>∃v E' h' g,e= .returned v/\K g h'/\SatH E' h' w'/\Evo fl E h w E' h' w'/\y.G g E'.M E'.N (Own E' h') w')
def IterK (K:Option (List (List AV))->AHeap->Prop):Exit->AS->Prop
 | .normal,s=>K s.g s.h
 | .ret,s=>K s.g s.h
 |_,_=>False
section
variable {P : Program}
def zkb {rq} {f} {fn} {c} {nt fl} {pre caps} {h} {items} {K} (hf:P.funcs[f]?=some fn) (J:fn.body=some c) (jL:fn.ntmps=nt) (qQ:fn.results= #[]) (hn:pre.length+caps.length+1<=nt) (y:Yo P items)
  (kp:∀base,AW (cxY P base nt fl y rq) c (IterK K) { t:=za8 0 (pre++ .fn (.yield y.yl) [] []::caps),h:=h,g:=some [] }) {E} {w} {us vs} (hs:SatH E h w) (hp:Reps w E h pre us.toList) (hc:Reps w E h caps vs.toList) (hG:y.G (some []) E.M E.N (Own E h) w):
  Calls P f (us++ #[Value.func (.yield y.yl) #[] #[]]++vs) w (λe w'=>∃v E' h' g,e= .returned v/\K g h'/\SatH E' h' w'/\Evo fl E h w E' h' w'/\y.G g E'.M E'.N (Own E' h') w'):=by
 refine (eG (n:=0)).1 (fi hf J trivial ?_ rfl);subst jL
 have tO:Reps w E h (pre++ .fn (.yield y.yl) [] []::caps) (us++ #[Value.func (.yield y.yl) #[] #[]]++vs).toList:=by simp only [cS,aY];refine hp.append ?_;exact ⟨_,_,rfl,oM,hc⟩
 have hlen:=Reps.length tO
 have qE:Sat (cxY P w.heap.size fn.ntmps fl y rq) E { t:=za8 0 (pre++ .fn (.yield y.yl) [] []::caps),h:=h,g:=some [] } { tmps:=(us++ #[Value.func (.yield y.yl) #[] #[]]++vs)++Array.replicate (fn.ntmps - (us++ #[Value.func (.yield y.yl) #[] #[]]++vs).size) undef,defers:= [] } w:=by
  refine ⟨λk g v hk=>?_,?_,hs,⟨aj _,λ_=>rfl⟩,⟨fZ,fZ⟩,?_⟩
  .obtain ⟨rfl,_,hv⟩:=zfg _ 0 k hk;obtain ⟨x,hx,tR⟩:=Reps.get tO hv
   grind
  .have:(us++ #[Value.func (.yield y.yl) #[] #[]]++vs).size=pre.length+(caps.length+1):=by
    grind
   show (_++Array.replicate _ undef).size=fn.ntmps
   grind
  .exact y.stab _ _ _ _ _ w _ fU (λb J=> .inl (J.elim id (λ⟨d,hd,_⟩=>fU))) (λb J=>J.elim (λh=>(hs.own b h).1) (λ⟨d,hd,_⟩=>fU)) fU rfl rfl rfl hG
 refine aT (kp w.heap.size E _ w qE) ?_;intro e a2 w2 jj
 have key:Reach (cxY P w.heap.size fn.ntmps fl y rq) E h w (λs=>K s.g s.h) a2 w2->LeavesInM Fence.wide 0 P fn a2.tmps (λe w'=>∃v E' h' g,e= .returned v/\K g h'/\SatH E' h' w'/\Evo fl E h w E' h' w'/\y.G g E'.M E'.N (Own E' h') w') a2.defers .returning w2:=by
  rintro ⟨E2,s2,hK,eg,e9⟩;refine zgG a2.defers w2 eg.marks (λw3 sh CE=>?_);refine' HF;refine ⟨.tuple #[],by rw [zlI,qQ];simp,_,E2,s2.h,s2.g,rfl,hK,il,?_,?_⟩
  .refine ⟨sh.os.trans e9.os,sh.tape.trans e9.tape,sh.output.trans e9.output,by rw [sh.size];exact e9.size,λb J ho hm=>(sh.low b J).trans (e9.keep b J ho hm),e9.own,e9.m1,e9.m2,e9.n,e9.go⟩
  .exact y.stab _ _ _ _ _ w2 _ fU fU (λb J=>(il.own b J).1) xK sh.tape sh.os sh.output eg.ghost
 cases e with
 |normal=>exact key jj
 |ret=>exact key jj
 |exit id=>obtain ⟨_,_,h,_⟩:=jj;exact h.elim
 |goto id=>obtain ⟨_,_,h,_⟩:=jj;exact h.elim
 |panic c=>obtain ⟨_,_,h,_⟩:=jj;exact h.elim
 |outgrown=>obtain ⟨_,_,h,_⟩:=jj;exact h.elim
def zmK {f} {fn} {c} {nt fl} {pre caps} {h} {items} {K} (J:P.funcs[f]?=some fn) (hb:fn.body=some c) (ix:zfe P f) (jL:fn.ntmps=nt) (qQ:fn.results= #[]) (hn:pre.length+caps.length+1<=nt)
  (kp:∀base (y:Yo P items),AW (cxY P base nt fl y) c (IterK K) { t:=za8 0 (pre++ .fn (.yield y.yl) [] []::caps),h:=h,g:=some [] }):AIter P f fl pre caps h items K:=
 ⟨ix,λy _ _ _ _ hs hp hc hG=>zkb J hb jL qQ hn y (λbase=>kp base y) hs hp hc hG⟩
end
def zhP (P:Program) (s:AS) (c:Call):Option (Nat×List AV×Prop):=
 match c.callee with
 | .value f=>match s.ev f with
  |(g,.fn (.yield l) [] [])=>some (l,((c.args.toList.zip (c.argTypes.toList++List.replicate c.args.size 0)).map λp=>(s.ev p.1).2.tag P p.2),g=true/\(c.args.toList.all λx=>(s.ev x).1)=true)
  |_=>none
 |_=>none
def aopY (cx:Cx) (tab:Tab) (G:Bool) (o:Oper) (K:AS->Prop) (s:AS):Prop:=
 match o.op with
 | .call c=>(match zhP cx.P s c with
  |some (l,args,J)=>dstOk cx.nt o.dst/\(if G=true then J/\l=cx.yl/\AV.idsL args= []/\(match s.g with
   |some xs=>(xs++ [args])<+:cx.items/\K ({ s with g:=some (xs++ [args]) }.put o.dst true (.d (.bool true)))/\K ({ s with g:=none }.put o.dst true (.d (.bool false)))
   |none=>False) else K (s.put o.dst false (.d (.bool false))))
  |none=>aopT cx tab G o K s)
 |_=>aopT cx tab G o K s
def aopsY (cx:Cx) (tab:Tab) (all:Array Oper):List Oper->(AS->Prop)->AS->Prop
 | [],K,s=>K s
 |o::r,K,s=>match zbu s all o.guard with
  |some G=>aopY cx tab G o (aopsY cx tab all r K) s
  |none=>False
section
variable {cx : Cx} {tab : Tab} {E : Env} {s : AS} {a : Act} {w : World}
def zqw {ro} {P} {l} {f} {tmps} {assign body} {w} {R} n (h:RoundIn Fence.wide n P l f tmps assign body w R):RoundIn { Fence.wide with round:=ro } n P l f tmps assign body w R:=h
def zzi {o:Oper} {c} (hop:o.op= .call c) {l} {args} {vc} (hy:zhP cx.P s c=some (l,args,vc)) {K} {Q} (hs:Sat cx E s a w) (hd:dstOk cx.nt o.dst) (hvc:vc) (hl:l=cx.yl) (hids:AV.idsL args= [])
    {xs} (hg:s.g=some xs) (hpre:(xs++ [args])<+:cx.items) (k1:K ({ s with g:=some (xs++ [args]) }.put o.dst true (.d (.bool true)))) (k2:K ({ s with g:=none }.put o.dst true (.d (.bool false)))):
    o.wpIn cx.F 0 cx.P a w (Reach cx E s.h w K) Q:=by
  refine' Eo
  subst hop
  obtain ⟨callee,cargs,ctypes⟩:=c
  have hdst:∀k,dst=some k→k<cx.nt:=fun k e=>kQ
  cases callee with
  |invoke r m=>simp [zhP] at hy
  |builtin b=>simp [zhP] at hy
  | value fo=>
    simp only [zhP] at hy
    split at hy
    case h_2=>cases hy
    case h_1 g n hef=>
      obtain ⟨rfl,rfl,rfl⟩:=hy
      obtain ⟨hgd,hall⟩:=hvc
      have hf:=ev_ok hs.slots fo fU
      rw [hef] at hf
      obtain ⟨pf,qc,hfv,hfs,hcs⟩:=hf
      have hpf:pf= #[]:=by simp only [Reps] at hfs;grind
      have hqc:qc= #[]:=by simp only [Reps] at hcs;grind
      have hargs:Reps w E s.h ((cargs.toList.zip (ctypes.toList++List.replicate cargs.size 0)).map fun p=>(s.ev p.1).2.tag cx.P p.2) (cargs.map a.eval).toList:=by
        have key:∀ (l:List Operand) (ts:List TypeId),l.length≤ts.length→(l.all fun x=>(s.ev x).1)=true→Reps w E s.h ((l.zip ts).map fun p=>(s.ev p.1).2.tag cx.P p.2) (l.map a.eval):=by
          intro l
          induction l with
          |nil=>simp_all
          | cons x l ih=>
            intro ts hl ha
            cases ts with
            |nil=>grind
            | cons t ts=>
              refine' IA
        rw [eF]
        grind
      obtain ⟨X,hX⟩:∃X:Nat→Prop,X=fun b=>Xs E s.h b∨zaL a.defers b:=⟨_,rfl⟩
      have hb:Reps w (bare X) [] ((cargs.toList.zip (ctypes.toList++List.replicate cargs.size 0)).map fun p=>(s.ev p.1).2.tag cx.P p.2) (cargs.map a.eval).toList:=by
        refine Reps.stepc (fun b o hc hb hx=>?_) (fun _ _ h _ _=>h) _ _ fU hargs
        rcases hx with ⟨i,hi,_⟩|hx|hx
        · simp [hget] at hi
        · exact hx.elim
        · rw [hX] at hx
          rcases hx with hx|⟨d,hdm,hdt⟩
          · grind
          · obtain ⟨r,h1,h2,_⟩:=hs.marks.1 d hdm
            rw [h1] at hdt
            cases hdt
            rw [h2] at hc;cases hc;cases hb
      have hgh:=hs.ghost
      rw [hg] at hgh
      obtain ⟨fn,tmps,assign,body,hrun,hround⟩:=cx.yok xs _ X E.M E.N _ w (cargs.map a.eval) hgh (fun b hb=>by
        rw [hX]
        rcases hb with hb|hb|hb|hb
        · exact .inl (.inr (.inl hb))
        · exact .inl (.inr (.inr hb))
        · exact .inl (.inl hb)
        · grind) hb hpre
      refine' HV
      rw [dS _ _ _ fZ]
      have hexec:(execOp a.eval ⟨dst,.call ⟨.value fo,cargs,ctypes⟩,ot,pos,after,guard⟩).run cx.P w= .ok (.round cx.yl fn tmps assign body) w:=by
        simp only [execOp,resolve,hfv,Deferred.ofValue,ai,ar,ah,invoke]
        grind
      rw [hexec]
      refine ⟨(fun h=>gS),?_⟩
      refine (zqw _ hround).mono ?_
      rintro e w' ⟨b,M',rfl,q1,q2,q3,q4,q5,q6,q7,q8⟩
      obtain ⟨E',hE'⟩:∃E':Env,E'= { E with M:=M' } :=⟨_,rfl⟩
      have hO:E'.O=E.O:=nE
      have hC:E'.C=E.C:=nE
      have hM:E'.M=M':=nE
      have hN:E'.N=E.N:=nE
      have hown:∀k,Own E' s.h k↔Own E s.h k:=fun k=>by unfold Own;rw [hO]
      have hXk:∀k,k<w.heap.size→Xs E' s.h k→Xs E s.h k:=fun k hk hx=>by
        refine' Gz
        · exact .inl fU
        · rw [hM] at hx
          rcases q7 k hx with h|h
          · exact .inr fU
          · omega
        · exact .inr fU
      have hKk:∀k,k<w.heap.size→¬Xs E s.h k→w'.heap[k]?=w.heap[k]?:=fun k hk hx=>q5 k hk (fun hm=>hx (.inr (.inl hm)))
      have hKo:∀k,Own E s.h k→w'.heap[k]?=w.heap[k]?:=fun k ho=>q5 k (hs.hp.own k ho).1 (hs.hp.own k ho).2.1
      have hgo:∀j,GoesOn E s.h E' s.h j:=fun j=>by
        unfold GoesOn
        grind
      have hrep:∀x y,Rep w E s.h x y→Rep w' E' s.h x y:=fun x y hxy=>Rep.step hXk hKk x y fU hxy
      have hp':SatH E' s.h w':=by
        refine ⟨fun i ob ho=>?_,by rw [hO];exact hs.hp.inj,fun k hk=>?_,fun k hk=>?_,fun k hk=>?_⟩
        · have:=hs.hp.heap i ob ho
          have hoi:∀k,E.O i=some k→w'.heap[k]?=w.heap[k]?:=fun k hk=>hKo k ⟨i,fU,hk⟩
          cases ob with
          | var cs=>
            refine' DG
            refine' DK
            exact ⟨b,c,T,fz,g1,fU,Reps.step hXk hKk _ _ fU g3,g4⟩
          | tvar tt cs=>
            refine' DG
            refine' DK
            exact ⟨b,c,T,fz,g1,fU,Reps.step hXk hKk _ _ fU g3,g4⟩
          | arr k xs=>
            refine' EK
            refine' Eb
            · grind
            · exact .inr ⟨b,c,T,fz,g1,fU,g3,g4,RepRows.step hXk hKk _ _ _ g5,g6⟩
          | buf tt xs=>
            refine' EK
            grind
          | strit l q=>
            refine' DG
            grind
          | omap es=>
            refine' DG
            grind
        · have ho:=hs.hp.own k fU
          grind
        · rw [hM] at hk
          rcases q7 k hk with h|h
          · exact aE (hs.hp.mlt k h) q4
          · grind
        · rw [hN] at hk;exact aE (hs.hp.nlt k hk) q4
      have hev:Evo cx.fl E s.h w E' s.h w':=⟨q1,q2,q3,q4,fun k hk _ hm=>q5 k hk hm,fun k hk=> .inl fU,fun k hk=>fU,fun k hk=>fU,hN,fun i _ hi=>⟨hi,hgo i⟩⟩
      have hsat:∀g',cx.G g' M' E.N (fun b=>Own E s.h b∨zaL a.defers b) w'→Sat cx E' { s with g:=g' } a w':=fun g' hG=>
        { slots:=fun k gg v hk=>by
            obtain ⟨x,h1,h2,h3⟩:=hs.slots k gg v hk
            grind
          nt:=hs.nt
          hp:=hp'
          base:=⟨aD hs.base.1 q4,hs.base.2⟩
          marks:=⟨fun d hd=>by
            obtain ⟨r,h1,h2,h3,h4⟩:=hs.marks.1 d hd
            grind,hs.marks.2⟩
          ghost:=by
            rw [hM,hN]
            refine cx.stab _ _ _ _ _ w' _ (fun _ _ _=>rfl) (fun k hk=> .inl (hk.imp (hown k).1 id)) (fun k hk=>hk.elim (fun h=>(hp'.own k h).1) (fun h=>aE (hs.marks.lt h) q4)) (aj _) rfl rfl rfl hG }
      cases b with
      | true=>
        have:=hsat _ q8
        exact ⟨E',_,k1,this.put hdst (fun _=>iI) (fun e=>gN),by cases dst<;>exact hev⟩
      | false=>
        have:=hsat _ q8
        exact ⟨E',_,k2,this.put hdst (fun _=>iI) (fun e=>gN),by cases dst<;>exact hev⟩
def zkc (ht:TabOk cx.P tab) {all} {o} {G} {K} {Q} (J:Sat cx E s a w) (hg:zbu s all o.guard=some G) (h:aopY cx tab G o K s):
  if Region.wanted o (yielded all a.tmps) then o.wpIn cx.F 0 cx.P a w (Reach cx E s.h w K) Q else (∀f,o.about cx.P w a.eval=some f->cx.F.fn f)/\Reach cx E s.h w K (a.put o.dst undef) w:=by
 unfold aopY at h;split at h
 .rename_i c an;split at h
  .rename_i l args vc hy;obtain ⟨hd,h⟩:=h;rw [zdt J.slots hg];cases G with
   | true=>
    obtain ⟨h1,h2,h3,h4⟩:=h;split at h4
    .rename_i xs hx;exact zzi an hy J hd h1 h2 h3 hx h4.1 h4.2.1 h4.2.2
    .grind
   |false=>
    exact ⟨λ_ _=>trivial,E,_,h,J.put (λk e=>kQ) fU fU,lT⟩
  .exact zhO ht J hg h
 .exact zhO ht J hg h
def zh5 (ht:TabOk cx.P tab) {all} :∀ (l:List Nat) (ops:List Oper) {K:AS->Prop} {s:AS} {E:Env} {a:Act} {w:World},l.map (all[·]?)=ops.map some->Sat cx E s a w->aopsY cx tab all ops K s->
  wpOpsIn cx.F 0 cx.P all (λe a' w'=>e= .normal/\Reach cx E s.h w K a' w') l a w
 | [],ops,K,s,E,a,w,J,hs,h=>by have:ops= []:=ig;subst this;exact ⟨rfl,zhK hs h⟩
 |i::l,[],K,s,E,a,w,J,hs,h=>fU
 | i::l,o::ops,K,s,E,a,w,J,hs,h=>by
  refine' EW;simp only [aopsY] at h;split at h
  .rename_i G hg;simp only [wpOpsIn,hi];have:=zkc ht (Q:=λ_ _ _=>False) hs hg h;split at this
   .refine' D3;have ih:=zh5 ht l ops J ab hk;refine' DI
   .refine' DW;have ih:=zh5 ht l ops J ab hk;refine' DI
  .grind
def zlK {id} {ops} {Q} tab (J:TabOk cx.P tab) (h:aopsY cx tab ops ops.toList (Q .normal) s):AW cx (.region id ops false) Q s:=λE a w hs=>
 cV (zaa _ (zh5 J _ _ (zeU ops) hs h) fU)
def zlk {id} {ops} {y} {Q} tab (J:TabOk cx.P tab) (h:∀K,(∀s',AW cx y Q s'->K s')->aopsY cx tab ops ops.toList K s):AW cx (.seq (.region id ops false) y) Q s:=
 zaC λK hK=>zlK tab J (h K hK)
def keepT (h:AHeap) (t:List (Nat×(Bool×AV))):List (Nat×(Bool×AV)):=t.map λq=>(q.1,(q.2.1,if (q.2.2.ids.all λi=>(hget h i).isSome)=true then q.2.2 else .any))
def zmL {h} :∀ (t:List (Nat×(Bool×AV))) (k:Nat),lk (keepT h t) k=(lk t k).map λq=>(q.1,if (q.2.ids.all λi=>(hget h i).isSome)=true then q.2 else .any)
  | [],k=>rfl
  | (j,(g,v))::r,k=>by
    have J:=zmL (h:=h) r k;unfold keepT at J |-;simp only [au,lk]
    grind
def zCi {c} {Q} p (hin:inH (hsel p s.h) (idsH (hsel p s.h))) (h:AW cx c Q { t:=keepT (hsel p s.h) s.t,h:=hsel p s.h,g:=s.g }):AW cx c Q s:=fun E a w hs=>by
  have hcl:Closed p s.h:=fun i o ho hp j hj=>by
    have h1:hget (hsel p s.h) i=some o:=by rw [zE,aa hp];omega
    have:=zfW hin j (zg3 h1 j hj)
    rw [zE] at this
    grind
  have hs':Sat cx E { t:=keepT (hsel p s.h) s.t,h:=hsel p s.h,g:=s.g } a w:=
    { slots:=fun k g v hk=>by
        have hk':lk (keepT (hsel p s.h) s.t) k=some (g,v):=hk
        rw [zmL] at hk'
        obtain ⟨q,hq,e⟩:=bF.1 hk'
        obtain ⟨g',v'⟩:=q
        refine' GA
        obtain ⟨x,h1,h2,h3⟩:=hs.slots k g' v' hq
        refine ⟨x,h1,fun e=>?_,h3⟩
        split
        · rename_i hall
          refine zwg (fun j hj=>?_) (h2 e)
          have:=bw.1 hall j hj
          rw [zE] at this
          grind
        · refine' Fg
      nt:=hs.nt
      hp:=zmJ hs.hp hcl
      base:=hs.base
      marks:=hs.marks
      ghost:=cx.stab _ _ _ _ _ w _ fU (fun _ hb=> .inl (hb.imp zan id)) (fun b hb=>hb.elim (fun h=>(hs.hp.own b (zan h)).1) hs.marks.lt) fU rfl rfl rfl hs.ghost }
  refine aT (h E a w hs') (fun _ _ _ hr=>hr.trans ?_)
  exact ⟨rfl,rfl,rfl,fU,fun _ _ _ _=>rfl,fun b hb=> .inl (zan hb),fun _ h=>h,fun _ h=> .inl h,rfl,fun j _ hj=>by
    have hj':(hget (hsel p s.h) j).isSome:=hj
    rw [zE] at hj'
    split at hj'
    · rename_i hp
      exact ⟨hj',zg9 j hp⟩
    · grind⟩
end
attribute [go_sem] aopsY aopY zhP cxY IterK keepT
end Go.Aw
