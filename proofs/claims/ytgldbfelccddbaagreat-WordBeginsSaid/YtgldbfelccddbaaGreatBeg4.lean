/-
 Parts of the proof: lemmas.
-/
import Derived.SizedLaws
import Derived.Test.YtgldbfelccddbaaGreatBeg3
import Derived.ProofKit
import Derived.OpenShut
import Derived.ChangeSame
set_option maxRecDepth 100000
set_option maxHeartbeats 2000000
set_option linter.unusedSimpArgs false
set_option linter.unusedVariables false
namespace Go.Aw
open Go Go.RowKit Go.ChangeShapes Go.WideShapes
def DTy (P:Program):Nat→TypeId→List D→Prop
  |0,_,_=>False
  | d+1,t,xs=>
    match (ty P t).td with
    | .int k=>∃n,xs= [.int k n]∧k.min≤n∧n≤k.max
    | .bool=>∃b,xs= [.bool b]
    | .str=>∃l,xs= [.str l]∧l.length≤140737488355328
    | .slice e=>∃rows,xs= [.sl (ty P e).size rows]∧rows.length≤9223372036854775807∧∀r∈rows,DTy P d e r
    | .struct fs=>fields fs xs (fun f=>DTy P d f)
    | .arr n e=>∃parts:List (List D),xs=parts.flatten∧parts.length=n∧∀p∈parts,DTy P d e p
    |_=>False
 where
  fields (fs:List (Nat×Nat)) (xs:List D) (r:TypeId→List D→Prop):Prop:=
    match fs with
    | []=>xs= []
    |f::fs=>∃a b,xs=a++b∧r f.2 a∧fields fs b r
def plainTy (P:Program):Nat→TypeId→Bool
  |0,_=>false
  | d+1,t=>
    match (ty P t).td with
    | .int _=>true
    | .bool=>true
    | .str=>true
    | .slice e=>plainTy P d e&&decide (0<(ty P e).size)
    | .struct fs=>(offs fs 0==some (ty P t).size)&&fs.all fun f=>plainTy P d f.2
    | .arr n e=>plainTy P d e&&(n*(ty P e).size==(ty P t).size)
    |_=>false
 where
  offs:List (Nat×Nat)→Nat→Option Nat
    | [],o=>some o
    |f::fs,o=>if f.1==o then offs fs (o+(ty P f.2).size) else none
section
variable {P : Program} {W : World} {X : Nat → Prop} {H : Type} {enc : TypeId × Value → H}
theorem RepDs.append:∀ {aZ bs:List D} {vs ws:List Value},RepDs W X aZ vs→RepDs W X bs ws→RepDs W X (aZ++bs) (vs++ws)
 | [],bs,_,ws,hr,hb=>by simp only [RepDs] at hr;subst hr;simpa using hb
 |b::aZ,bs,_,ws,hr,hb=>by
  simp only [RepDs] at hr
  obtain ⟨v,r,rfl,h2,h3⟩:=hr
  simp only [List.cons_append,RepDs]
  exact ⟨_,_,rfl,h2,RepDs.append h3 hb⟩
theorem zev {k:Nat} {Q:List D→Prop} :∀ (n:Nat) (vs:List Value),(∀i,i<n→∃r,Q r∧r.length=k∧RepDs W X r ((vs.drop (i*k)).take k))→∃rows:List (List D),rows.length=n∧(∀r∈rows,Q r)∧RepRows W X k rows vs
 |0,vs,_=>⟨[],rfl,by simp,by simp [RepRows]⟩
 | n+1,vs,h=>by
  obtain ⟨r,h1,h2,h3⟩:=h 0 (by omega)
  obtain ⟨rows,g1,g2,g3⟩:=zev n (vs.drop k) (fun i hi=>by
   obtain ⟨r,q1,q2,q3⟩:=h (i+1) (by omega)
   exact ⟨r,q1,q2,by rw [List.drop_drop];rwa [show k+i*k=(i+1)*k by rw [Nat.succ_mul];omega]⟩)
  exact ⟨r::rows,by simp [g1],by simpa using ⟨h1,g2⟩,by simp only [RepRows];exact ⟨h2,by simpa using h3,g3⟩⟩
theorem zdR {k : Nat} {Q : List D → Prop} :∀ (n:Nat) (vs:List Value),vs.length=n*k→(∀i,i<n→∃r,Q r∧RepDs W X r ((vs.drop (i*k)).take k))→∃rows:List (List D),rows.length=n∧(∀r∈rows,Q r)∧RepDs W X rows.flatten vs
  | 0, vs, hl, _ => ⟨[], rfl, by simp, by have:vs= []:=by simpa using hl
                                          subst this;simp [RepDs]⟩
  | n +1,vs,hl,h=>by
    obtain ⟨r,h1,h3⟩:=h 0 (by omega)
    obtain ⟨rows,g1,g2,g3⟩:=zdR (k:=k) n (vs.drop k) (by rw [List.length_drop,hl,Nat.succ_mul];omega) (fun i hi=>by
      obtain ⟨r,q1,q3⟩:=h (i+1) (by omega)
      exact ⟨r,q1,by rw [List.drop_drop];rwa [show k+i*k=(i+1)*k by rw [Nat.succ_mul];omega]⟩)
    refine ⟨r::rows,by simp [g1],by simpa using ⟨h1,g2⟩,?_⟩
    rw [List.flatten_cons,← List.take_append_drop k vs]
    exact RepDs.append (by simpa using h3) g3
theorem zg5 {a:Addr} {n:Nat} {cs:List Value} (h:W.cells? 0 a n=some cs):cs.length=n∧∀i,i<n→W.cell? (a.add i)=cs[i]?:=by
 unfold World.cells? at h
 rw [if_pos (Nat.zero_le _)] at h
 have h1:=mapM_some_length h
 exact ⟨by simpa using h1,fun i hi=>mapM_some_get h i i (by simp [hi])⟩
def Wt (P:Program) (t:TypeId) (x:DataW H):Prop:=∀n∈DataW.weights P t x,n≤reachBytes
theorem zlp {e:TypeId} {n:Nat} :∀ {l:List (DataW H)} {d:DataW H},d∈l→n∈DataW.weights P e d→n∈DataW.weightsAll P e l
 | [],_,h,_=>by cases h
 |a::r,d,h,hn=>by
  simp only [DataW.weightsAll,List.mem_append]
  rcases List.mem_cons.1 h with rfl|h
  ·exact .inl hn
  ·exact .inr (zlp h hn)
theorem zd8 (hX:∀b,¬X b):∀ (d:Nat) (t:TypeId) (n:Nat) (cs:List Value) (x:DataW H×List MemPlace),plainTy P d t=true→DataW.trod enc P W 0 (fun _=>true) true n t cs=some x→Wt P t x.1→
  ∃xs,DTy P d t xs∧RepDs W X xs cs
 |0,t,n,cs,x,hp,_,_=>by simp [plainTy] at hp
 | d + 1,t,n,cs,x,hp,h,hwt=>by
  unfold plainTy at hp
  unfold DTy
  have hsz1:∀ {desc},P.underlying t=some desc→(ty P t).size=P.cellsOf t:=fun _=>rfl
  split at hp
  ·rename_i k ht
   have hu:=zcB ht
   obtain ⟨m,rfl,_,hw⟩:=DataW.trod_int hu h
   simp only [Lit.wf,Bool.and_eq_true,decide_eq_true_eq] at hw
   exact ⟨[.int k m],⟨m,rfl,hw.1,hw.2⟩,by simp [RepDs,RepD]⟩
  ·rename_i ht
   have hu:=zch ht
   obtain ⟨m,rfl,_⟩:=DataW.trod_bool hu h
   exact ⟨[.bool m],⟨m,rfl⟩,by simp [RepDs,RepD]⟩
  ·rename_i ht
   have hu:=zaC ht
   obtain ⟨m,rfl,rfl,_⟩:=DataW.trod_string hu h
   have h9:m.data.size≤140737488355328:=Nat.le_trans (hwt _ (by simp [DataW.weights])) (by decide)
   exact ⟨[.str m.data.toList],⟨_,rfl,by simpa using h9⟩,by simp [RepDs,RepD]⟩
  ·rename_i e ht
   have hu:=zq ht
   simp only [Bool.and_eq_true,decide_eq_true_eq] at hp
   obtain ⟨hpe,hk⟩:=hp
   rcases DataW.trod_slice hu h with ⟨rfl,_⟩|⟨a,len,cap,elems,rest,m,rfl,rfl,rfl,_,hlc,hcap,hel,hget,_,_⟩
   ·exact ⟨[.sl (ty P e).size []],⟨[],rfl,by simp,by simp⟩,by simp [RepDs,RepD]⟩
   ·have hce:P.cellsOf e=(ty P e).size:=rfl
    rw [hce] at hget
    have hrow:∀i,i<len→∃cs,W.cells? 0 (a.add (i*(ty P e).size)) (ty P e).size=some cs∧∃y,DataW.trod enc P W 0 (fun _=>true) true m e cs=some y∧Wt P e y.1:=fun i hi=>by
     have:=hget i hi
     rw [List.getElem?_eq_getElem (by omega)] at this
     obtain ⟨cs,h1,h2⟩:=Option.bind_eq_some_iff.1 this
     refine ⟨cs,h1,_,h2,fun n hn=>hwt n ?_⟩
     simp only [DataW.weights,hu,List.mem_cons,List.mem_append]
     exact .inr (.inl (zlp (List.mem_map_of_mem (List.getElem_mem _)) hn))
    rcases Nat.eq_zero_or_pos len with h0|h0
    ·subst h0
     exact ⟨[.sl (ty P e).size []],⟨[],rfl,by simp,by simp⟩,by simp [RepDs,RepD]⟩
    ·-- the first cell shows the block
     obtain ⟨cs0,hc0,_⟩:=hrow 0 h0
     obtain ⟨hl0,hg0⟩:=zg5 hc0
     have hcell:=hg0 0 hk
     rw [Nat.zero_mul,List.getElem?_eq_getElem (by omega)] at hcell
     have ha0:(a.add 0).add 0=a:=by simp [Addr.add]
     rw [ha0] at hcell
     obtain ⟨ab,ao,asp⟩:=a
     unfold World.cell? at hcell
     cases hb:W.heap[ab]? with
     |none=>simp [hb] at hcell
     | some o=>
      cases o<;>simp only [hb] at hcell<;>try cases hcell
      rename_i c T fz
      have hsp:asp=none:=by
       cases asp with
       |none=>rfl
       |some q=>simp at hcell
      subst hsp
      obtain ⟨rows,g1,g2,g3⟩:=zev (W:=W) (X:=X) (k:=(ty P e).size) (Q:=DTy P d e) len (c.toList.drop ao) (fun i hi=>by
       obtain ⟨cs,h1,y,h2,h4⟩:=hrow i hi
       obtain ⟨hl,hg⟩:=zg5 h1
       obtain ⟨xs,q1,q2⟩:=zd8 hX d e m cs y hpe h2 h4
       have hcs:cs=((c.toList.drop ao).drop (i*(ty P e).size)).take (ty P e).size:=by
        apply List.ext_getElem?
        intro j
        by_cases hj:j<(ty P e).size
        ·have:=hg j hj
         rw [Addr.add_none,Addr.add_none,zn hb] at this
         rw [← this,List.getElem?_take_of_lt hj,List.getElem?_drop,List.getElem?_drop,← Array.getElem?_toList]
         congr 1;omega
        ·rw [List.getElem?_eq_none (by omega),List.getElem?_eq_none (by simp;omega)]
       exact ⟨xs,q1,by rw [← RepDs.length q2,hl],by rw [← hcs];exact q2⟩)
      refine ⟨[.sl (ty P e).size rows],⟨rows,rfl,by rw [g1];exact Nat.le_trans hlc (Nat.le_trans hcap (by decide)),g2⟩,?_⟩
      simp only [RepDs,RepD]
      exact ⟨_,_,rfl,.inr ⟨⟨ab,ao,none⟩,cap,c,T,fz,by rw [g1],rfl,by omega,hX _,hb,g3⟩,rfl⟩
  ·rename_i fs ht
   obtain ⟨gs,hu,hgs,_⟩:=zbw ht
   simp only [Bool.and_eq_true,beq_iff_eq] at hp
   obtain ⟨hof,hall⟩:=hp
   obtain ⟨ys,m,rfl,rfl,hcl,hyl,hget⟩:=DataW.trod_struct hu h
   have hcl':cs.length=(ty P t).size:=hcl
   have key:∀ (l:List (Nat×Nat)) (o:Nat),plainTy.offs P l o=some (ty P t).size→(l.all fun f=>plainTy P d f.2)=true→(∀f∈l,∃y,DataW.trod enc P W 0 (fun _=>true) true m f.2 ((cs.drop f.1).take (ty P f.2).size)=some y∧Wt P f.2 y.1)→
     ∃xs,DTy.fields l xs (fun f=>DTy P d f)∧RepDs W X xs (cs.drop o):=by
    intro l
    induction l with
    |nil=>
     intro o ho _ _
     simp only [plainTy.offs,Option.some.injEq] at ho
     refine ⟨[],by simp [DTy.fields],?_⟩
     rw [List.drop_eq_nil_of_le (by omega)]
     simp [RepDs]
    | cons f l ih=>
     intro o ho ha hf
     simp only [plainTy.offs] at ho
     split at ho
     ·rename_i ho1
      simp only [beq_iff_eq] at ho1
      simp only [List.all_cons,Bool.and_eq_true] at ha
      obtain ⟨y,hy,hy2⟩:=hf f (by simp)
      obtain ⟨xs,q1,q2⟩:=zd8 hX d f.2 m _ y ha.1 hy hy2
      obtain ⟨zs,r1,r2⟩:=ih _ ho ha.2 (fun g hg=>hf g (by simp [hg]))
      refine ⟨xs++zs,⟨xs,zs,rfl,q1,r1⟩,?_⟩
      rw [ho1] at q2
      have:cs.drop o=(cs.drop o).take (ty P f.2).size++cs.drop (o+(ty P f.2).size):=by
       rw [← List.drop_drop,List.take_append_drop]
      rw [this]
      exact RepDs.append q2 r2
     ·cases ho
   obtain ⟨xs,q1,q2⟩:=key fs 0 hof hall (fun f hf=>by
    rw [← hgs] at hf
    obtain ⟨g,hg,rfl⟩:=List.mem_map.1 hf
    obtain ⟨i,hi,hgi⟩:=List.getElem_of_mem hg
    have h1:=hget i g (by rw [← Array.getElem?_toList,List.getElem?_eq_getElem hi,hgi])
    have hlt:i<ys.length:=by rw [hyl];simpa using hi
    rw [List.getElem?_eq_getElem hlt] at h1
    refine ⟨_,h1,fun n hn=>hwt n ?_⟩
    simp only [DataW.weights,hu]
    exact DataW.weights_mem_each (j:=i) (by rw [List.getElem?_map,List.getElem?_eq_getElem hi,hgi];rfl) (by rw [List.getElem?_map,List.getElem?_eq_getElem hlt];rfl) n hn)
   exact ⟨xs,q1,by simpa using q2⟩
  ·rename_i k e ht
   have hu:=zba ht
   simp only [Bool.and_eq_true,beq_iff_eq] at hp
   obtain ⟨hpe,hsz⟩:=hp
   obtain ⟨ys,m,rfl,rfl,hcl,hyl,hget⟩:=DataW.trod_array hu h
   have hcl':cs.length=(ty P t).size:=hcl
   obtain ⟨parts,g1,g2,g3⟩:=zdR (W:=W) (X:=X) (k:=(ty P e).size) (Q:=DTy P d e) k cs (by rw [hcl',hsz]) (fun i hi=>by
    have h1:=hget i hi
    rw [List.getElem?_eq_getElem (by omega)] at h1
    obtain ⟨xs,q1,q2⟩:=zd8 hX d e m _ _ hpe h1 (fun n hn=>hwt n (by simp only [DataW.weights,hu];exact zlp (List.mem_map_of_mem (List.getElem_mem _)) hn))
    exact ⟨xs,q1,q2⟩)
   exact ⟨parts.flatten,⟨parts,rfl,g1,g2⟩,g3⟩
  ·cases hp
end
open Go Go.RowKit Go.ChangeShapes Go.WideShapes
def argAV (P:Program) (t:TypeId) (xs:List D):AV:=
 match (ty P t).td with
 | .struct _=> .agg (xs.map .d)
 | .arr _ _=> .agg (xs.map .d)
 |_=>match xs with
  | [x]=> .d x
  |_=> .any
def DTys (P:Program):List TypeId→List (List D)→Prop
 | [],l=>l= []
 |t::ts,l=>∃x r,l=x::r∧DTy P 9 t x∧DTys P ts r
def zdS (P:Program):List TypeId→List (List D)→List AV
 |t::ts,x::r=>argAV P t x::zdS P ts r
 |_,_=> []
section
variable {H : Type} {enc : TypeId × Value → H} {P : Program} {W : World}
def E0:Env:= { O:=fun _=>none,C:=fun _=>0,M:=fun _=>False,N:=fun _=>False }
theorem satH0 (W:World):SatH E0 [] W:=⟨fun i o ho=>by simp [hget] at ho,fun i j b h1=>by simp [hget] at h1,fun b ⟨i,hi,_⟩=>by simp [hget] at hi,fun _ h=>h.elim,fun _ h=>h.elim⟩
theorem noX0:∀b,¬Xs E0 [] b:=fun b hx=>by
 rcases hx with ⟨i,hi,_⟩|hx|hx
 ·simp [hget] at hi
 ·exact hx
 ·exact hx
theorem zfz {E:Env} {h:AHeap} :∀ {xs:List D} {vs:List Value},RepDs W (Xs E h) xs vs→Reps W E h (xs.map .d) vs
 | [],vs,hr=>by simpa [RepDs,Reps] using hr
 |x::xs,vs,hr=>by
  simp only [RepDs] at hr
  obtain ⟨v,r,rfl,h2,h3⟩:=hr
  simp only [List.map_cons,Reps]
  exact ⟨v,r,rfl,by simpa [Rep] using h2,zfz h3⟩
theorem zin {t:TypeId} {v:Value} {r:Go.Reach} {b:Nat} (h:Value.okWide P W r b t v) (hs:∀fs,P.underlying t≠some (.struct fs)) (ha:∀n e,P.underlying t≠some (.array n e)) (hn:P.underlying t≠none):∀x,v.cells.toList= [x]→v=x:=by
 intro x hx
 unfold Value.okWide at h
 split at h
 ·rename_i fs h1;exact (hs _ h1).elim
 ·rename_i a b h1;exact (ha _ _ h1).elim
 ·cases v<;>simp_all [Value.cells,Cell.okWide,Cell.ok]
theorem zo8 {t:TypeId} {v:Value} {d:DataW H} {ps:List MemPlace} {r:Go.Reach} {b:Nat} (hp:plainTy P 9 t=true) (hv:Value.okWide P W r b t v) (h:DataW.Trod enc P W 0 (fun _=>true) true t v d ps) (hw:Wt P t d):
  ∃xs,DTy P 9 t xs∧Rep W E0 [] (argAV P t xs) v:=by
 obtain ⟨n,hn⟩:=h
 obtain ⟨xs,h1,h2⟩:=zd8 (X:=Xs E0 []) noX0 9 t n _ _ hp hn hw
 refine ⟨xs,h1,?_⟩
 have h3:=zfz (E:=E0) (h:= []) h2
 unfold argAV
 have hleaf:∀x:D,xs= [x]→(∀fs,P.underlying t≠some (.struct fs))→(∀n e,P.underlying t≠some (.array n e))→P.underlying t≠none→Rep W E0 [] (.d x) v:=by
  rintro x rfl hs ha hn
  simp only [RepDs] at h2
  obtain ⟨y,r',hy,h4,rfl⟩:=h2
  have:=zin hv hs ha hn y hy
  subst this
  simpa [Rep] using h4
 unfold plainTy at hp
 unfold DTy at h1
 split at hp
 ·rename_i k ht
  have hu:=zcB ht
  simp only [ht] at h1 ⊢
  obtain ⟨m,rfl,_⟩:=h1
  exact hleaf _ rfl (by rw [hu];simp) (by rw [hu];simp) (by rw [hu];simp)
 ·rename_i ht
  have hu:=zch ht
  simp only [ht] at h1 ⊢
  obtain ⟨m,rfl⟩:=h1
  exact hleaf _ rfl (by rw [hu];simp) (by rw [hu];simp) (by rw [hu];simp)
 ·rename_i ht
  have hu:=zaC ht
  simp only [ht] at h1 ⊢
  obtain ⟨m,rfl,_⟩:=h1
  exact hleaf _ rfl (by rw [hu];simp) (by rw [hu];simp) (by rw [hu];simp)
 ·rename_i e ht
  have hu:=zq ht
  simp only [ht] at h1 ⊢
  obtain ⟨m,rfl,_⟩:=h1
  exact hleaf _ rfl (by rw [hu];simp) (by rw [hu];simp) (by rw [hu];simp)
 ·rename_i fs ht
  obtain ⟨gs,hu,_⟩:=zbw ht
  simp only [ht]
  obtain ⟨cs,rfl,_⟩:=okWide_struct hu hv
  simp only [Rep]
  exact ⟨cs,rfl,by simpa [Value.cells] using h3⟩
 ·rename_i k e ht
  have hu:=zba ht
  simp only [ht]
  unfold Value.okWide at hv
  rw [hu] at hv
  obtain ⟨cs,rfl,_⟩:=hv
  simp only [Rep]
  exact ⟨cs,rfl,by simpa [Value.cells] using h3⟩
 ·cases hp
theorem zf0 {r:Go.Reach} {b:Nat} :∀ {ts:List TypeId} {vs:List Value} {ds:List (DataW H)} {ps:List MemPlace},ts.all (plainTy P 9)=true→(∀ (j:Nat) t v,ts[j]?=some t→vs[j]?=some v→Value.okWide P W r b t v)→DataW.TrodAll enc P W 0 (fun _=>true) true ts vs ds ps→(∀ (j:Nat) t d,ts[j]?=some t→ds[j]?=some d→Wt P t d)→
  ∃xss,DTys P ts xss∧Reps W E0 [] (zdS P ts xss) vs∧ds.length=ts.length
 | [],_,_,_,_,_,h,_=>by
  obtain ⟨rfl,rfl,rfl⟩:=trodAll_nil h
  exact ⟨[],rfl,by simp [zdS,Reps],rfl⟩
 |t::ts,_,_,_,hp,hv,h,hw=>by
  obtain ⟨v,vs1,d,ds1,a,b,rfl,rfl,rfl,h1,h2⟩:=trodAll_cons h
  simp only [List.all_cons,Bool.and_eq_true] at hp
  obtain ⟨xs,q1,q2⟩:=zo8 hp.1 (hv 0 t v rfl rfl) h1 (hw 0 t d rfl rfl)
  obtain ⟨xss,r1,r2,r3⟩:=zf0 hp.2 (fun j t v ht hv'=>hv (j+1) t v (by simpa using ht) (by simpa using hv')) h2 (fun j t d ht hd=>hw (j+1) t d (by simpa using ht) (by simpa using hd))
  exact ⟨xs::xss,⟨xs,xss,rfl,q1,r1⟩,by simp only [zdS,Reps];exact ⟨_,_,rfl,q2,r2⟩,by simp [r3]⟩
theorem zlq {f:FuncId} {args:Array Value} {ts:List TypeId} {ds:List (DataW H)} {ps:List MemPlace} {r:Go.Reach} {b:Nat} (hp:ts.all (plainTy P 9)=true)
  (hv:∀ (j:Nat) t v,ts[j]?=some t→args.toList[j]?=some v→Value.okWide P W r b t v) (hA:DataW.TrodAll enc P W 0 (fun _=>true) true ts args.toList ds ps) (hw:∀ (j:Nat) t d,ts[j]?=some t→ds[j]?=some d→Wt P t d)
  (law:∀xss,DTys P ts xss→ACall P f 0 (zdS P ts xss) [] (fun r _=>r= .d (.bool true))):
  Calls P f args W (fun e W'=>e= .returned (.bool true)∧Below W.heap.size W W'):=by
 obtain ⟨xss,h1,h2,_⟩:=zf0 hp hv hA hw
 obtain ⟨_,hc⟩:=law xss h1
 refine (hc E0 W args (satH0 W) h2).mono ?_
 rintro e w' ⟨v,E',r',h',rfl,rfl,hs',hr',hev⟩
 refine ⟨by simp only [Rep,RepD] at hr';rw [hr'],hev.os,hev.tape,hev.output,hev.size,fun k hk=>hev.keep k hk (fun ⟨i,hi,_⟩=>by simp [hget] at hi)⟩
theorem zg6 (hl:laidOutB P=true) {W':World} (hb:Below W.heap.size W W'):∀ {ts:List TypeId} {vs:List Value} {ds:List (DataW H)} {ps:List MemPlace},(∀t∈ts,P.readableRec t=true∧t<P.types.size)→DataW.TrodAll enc P W 0 (fun _=>true) true ts vs ds ps→
  DataW.TrodAll enc P W' 0 (fun b=>decide (b<W.heap.size)) true ts vs ds ps
 | [],_,_,_,_,h=>by
  obtain ⟨rfl,rfl,rfl⟩:=trodAll_nil h
  rfl
 |t::ts,_,_,_,hr,h=>by
  have hlt:=h.lt
  obtain ⟨v,vs1,d,ds1,a,b,rfl,rfl,rfl,h1,h2⟩:=trodAll_cons h
  exact ⟨a,b,Below.trod hl (hr t (by simp)).1 (hr t (by simp)).2 h1 hb (fun x hx=>hlt x (by simp [hx])),zg6 hl hb (fun t ht=>hr t (by simp [ht])) h2,rfl⟩
theorem law_lifted {C:Checked} {os:Os} {f:FuncId} {fn:Func} {s:ChangeSpec} {tb:TypeId} {conds:List PathCond} (own:ownKnob C.prog.godebug=none) (started:os.Started) (noInit:C.prog.inits.idxOf? f=none) (hfn:C.prog.funcs[f]?=some fn)
  (witness:∃ (w:World) (tape:Tape) (i:Input),w.os=os∧(w.forCall tape i).Shaped C.prog∧i.vars= []∧Input.okWide C.prog (w.forCall tape i) .any w.heap.size f i∧
   s.pre6 enc C.prog fn conds false (w.forCall tape i).memory i.args∧({} :Assume).holds C.prog (lone (Frame.enter C.prog f i.args .normal) [] (w.forCall tape i)))
  (hvars:s.vars= []) (hspec:∀ds:List (DataW H),ds.length=fn.params.toList.length→s.fn H ds= { results:= [.lit (.bool true)],args:=ds })
  (hrt:fn.resultTypes= #[tb]) (htb:(ty C.prog tb).td= .bool)
  (hl:laidOutB C.prog=true) (hr:(fn.params.toList.all fun t=>C.prog.readableRec t&&decide (t<C.prog.types.size))=true) (hp:fn.params.toList.all (plainTy C.prog 9)=true)
  (law:∀xss,DTys C.prog fn.params.toList xss→ACall C.prog f 0 (zdS C.prog fn.params.toList xss) [] (fun r _=>r= .d (.bool true))):
  ReturnsInHanded {} C os f .any (s.pre6 enc C.prog fn conds false) (s.post enc C.prog fn false true false false):=by
 refine returnsInHanded_of_change_sized own started noInit hfn witness ?_
 intro W base args ds gs before hval hW hcnd hsz _
 have hW':=hW
 obtain ⟨p,q,hA,hV,rfl,hfz,hnd⟩:=hW
 rw [hvars] at hV
 have hV':gs= []∧q= []:=by
  cases gs with
  |nil=>exact ⟨rfl,hV⟩
  |cons a b=>exact hV.elim
 obtain ⟨rfl,rfl⟩:=hV'
 have hw:∀ (j:Nat) t d,fn.params.toList[j]?=some t→ds[j]?=some d→Wt C.prog t d:=fun j t d ht hd n hn=>by
  have h1:j<fn.params.toList.length:=(List.getElem?_eq_some_iff.1 ht).1
  have:=List.all_eq_true.1 hsz n (DataW.weights_mem_each (j:=j) (by rw [List.getElem?_append_left h1];exact ht) (by rw [List.append_nil];exact hd) n hn)
  simpa using this
 obtain ⟨_,_,_,hdl⟩:=zf0 (r:= .any) (b:=base) hp (fun j t v h1 h2=>hval j t v (by simpa using h1) (by simpa using h2)) hA hw
 refine (zlq hp (fun j t v h1 h2=>hval j t v (by simpa using h1) (by simpa using h2)) hA hw law).mono ?_
 rintro e W' ⟨rfl,hb⟩
 refine ⟨_,rfl,ds,[],p++ [],[],p,[],hW',?_,?_,?_,?_,fun h=>by cases h⟩
 ·rw [hrt,List.append_nil,hspec ds hdl]
  refine ⟨[],[],⟨1,?_⟩,rfl,rfl⟩
  have:=zch htb
  simp [DataW.trod,Value.cells,this]
 ·rw [List.append_nil,hspec ds hdl]
  exact zg6 hl hb (fun t ht=>by have:=List.all_eq_true.1 hr t ht;simpa using this) hA
 ·rw [hvars,List.append_nil,hspec ds hdl]
  rfl
 ·refine World.keptBut_mono (fun p' hp'=>?_) (hb.frame (fun _=>False))
  exact hp'.elim
end
open Go
attribute [go_sem] aop aop1 isVal zbk isX zH rowsK rowsT zb3 zrow aval zaa dstOk known AS.ev AS.put lk cv AV.tag z6 zbi zav AS.esOf zds zM zes zN zdt zbx avLen za1 AV.oneD AS.bnd AS.cur nilAV abin2 abin abinI abinS aun zb1 zcl aeff fillL putL hget hset fresh top AV.cells AV.cellsOk AV.leaf AV.toD toDs zfq apart psize TD.agg ares one RetK thenK zi7 zL cxOf
@[go_sem] theorem zp4 (k:IntKind) (n:Int):alike (.int k) (.int k n)=true:=by simp [alike]
@[go_sem] theorem zp5 (l:List UInt8):alike .str (.str l)=true:=rfl
@[go_sem] theorem zpV (b:Bool):alike .bool (.bool b)=true:=rfl
theorem zg7 {α β:Type} (g:α→β) (l:List α):(l.map g).take l.length=l.map g:=List.take_of_length_le (by simp)
theorem znA {α:Type} (l:List α):l.take l.length=l:=List.take_of_length_le (Nat.le_refl _)
@[go_sem] theorem isB_bool (b:Bool):(AV.d (.bool b)).isB=true:=rfl
@[go_sem] theorem toB_bool (b:Bool):(AV.d (.bool b)).toB=b:=rfl
theorem zp6 (a b:Bool):(bif a then true else b)=(a||b):=by cases a<;>rfl
theorem zo9 (a b:Bool):(bif a then b else false)=(a&&b):=by cases a<;>rfl
attribute [go_sem] cond_true cond_false zp6 zo9 List.map_cons List.map_nil List.zip_cons_cons List.zip_nil_left List.cons_append List.nil_append List.append_nil List.all_cons List.all_nil List.length_cons List.length_nil List.getElem?_cons_zero List.getElem?_cons_succ List.getD_cons_zero List.getD_cons_succ List.drop_zero List.drop_succ_cons List.take_zero List.take_succ_cons List.take_nil List.drop_nil List.set_cons_zero List.set_cons_succ List.replicate_zero List.replicate_succ List.flatten_cons List.flatten_nil List.range_succ List.size_toArray Option.bind_some Option.map_some Option.getD_some Bool.and_true Bool.true_and Bool.and_self Bool.false_and Bool.and_false true_implies false_implies and_true true_and and_self if_true if_false Option.some.injEq Prod.mk.injEq beq_self_eq_true beq_true beq_false ne_eq not_false_eq_true not_true_eq_false reduceCtorEq Option.isSome_some Option.isSome_none List.getElem?_toArray Option.map_none Option.bind_none Option.getD_none Bool.not_true Bool.not_false Bool.false_eq_true Bool.or_true Bool.true_or Bool.or_false Bool.false_or decide_true decide_false imp_self implies_true Bool.not_eq_true' Bool.not_eq_false'
open Go
def frz:Nat→AHeap→AV→AV
 |0,_,a=>(match a with
  | .d x=> .d x
  |_=> .any)
 | n+1,h,a=>(match a with
  | .d x=> .d x
  | .nils k=> .d (.sl k [])
  | .agg cs=> .agg (cs.map (frz n h))
  | .tup cs=> .tup (cs.map (frz n h))
  | .dp cs=> .dp (cs.map (frz n h))
  | .fn f fs cs=> .fn f (fs.map (frz n h)) (cs.map (frz n h))
  | .asl k rows=> .asl k (rows.map (List.map (frz n h)))
  | .nilfn=> .nilfn
  | .nilmap=> .nilmap
  | .iface t v=> .iface t (frz n h v)
  | .vp i off=>(match hget h i with
   |some (.var cs)=> .dp ((cs.drop off).map (frz n h))
   |_=> .any)
  | .osl i k m off len=>(match hget h i with
   |some (.arr k' xs)=>if k=k'∧m=xs.length∧off+len≤m then .d (.sl k ((xs.drop off).take len)) else .any
   |_=> .any)
  |_=> .any)
mutual
def AV.scal:AV→Bool
 | .d x=>x.scal
 | .agg cs=>AV.scalL cs
 | .tup cs=>AV.scalL cs
 | .nilfn=>true
 | .nilmap=>true
 |_=>false
def AV.scalL:List AV→Bool
 | []=>true
 |x::xs=>x.scal&&AV.scalL xs
end
def Tab:=FuncId→List AV→Option (Prop×AV)
def noTab:Tab:=fun _ _=>none
structure TabOk (P:Program) (tab:Tab):Prop where
 ok:∀f args pre r,tab f args=some (pre,r)→pre→r.ids= []∧ACall P f 0 args [] (fun r' _=>r'=r)
theorem za (P:Program):TabOk P noTab:=⟨fun _ _ _ _ h=>by cases h⟩
section
variable {P : Program} {W W' : World} {E E' : Env} {h h' : AHeap}
theorem RepD.scal {X X':Nat→Prop} {x:D} {v:Value} (hs:x.scal=true) (hr:RepD W X x v):RepD W' X' x v:=by
 cases x<;>simp_all [D.scal,RepD]
mutual
theorem Rep.scal:∀ (a:AV) (v:Value),a.scal=true→Rep W E h a v→Rep W' E' h' a v
 | .d x,v,hs,hr=>by simp only [Rep,AV.scal] at*;exact RepD.scal hs hr
 | .agg cs,v,hs,hr=>by
  simp only [Rep,AV.scal] at*
  obtain ⟨vs,rfl,h2⟩:=hr
  exact ⟨vs,rfl,Reps.scal cs _ hs h2⟩
 | .tup cs,v,hs,hr=>by
  simp only [Rep,AV.scal] at*
  obtain ⟨vs,rfl,h2⟩:=hr
  exact ⟨vs,rfl,Reps.scal cs _ hs h2⟩
 | .nilfn,v,hs,hr=>by simpa only [Rep] using hr
 | .nilmap,v,hs,hr=>by simpa only [Rep] using hr
 | .nils _,_,hs,_| .dp _,_,hs,_| .vp _ _,_,hs,_| .ap _ _ _ _ _,_,hs,_| .osl _ _ _ _ _,_,hs,_| .vsl _ _ _ _,_,hs,_| .asl _ _,_,hs,_| .fn _ _ _,_,hs,_| .any,_,hs,_| .map _,_,hs,_| .itr _,_,hs,_| .iface _ _,_,hs,_| .amap _ _,_,hs,_| .raw _,_,hs,_| .tp _ _,_,hs,_| .bsl _ _,_,hs,_=>by simp [AV.scal] at hs
theorem Reps.scal:∀ (aZ:List AV) (vs:List Value),AV.scalL aZ=true→Reps W E h aZ vs→Reps W' E' h' aZ vs
 | [],vs,_,hr=>by simpa only [Reps] using hr
 |x::xs,vs,hs,hr=>by
  simp only [Reps,AV.scalL,Bool.and_eq_true] at*
  obtain ⟨v,r,rfl,h2,h3⟩:=hr
  exact ⟨v,r,rfl,Rep.scal x v hs.1 h2,Reps.scal xs r hs.2 h3⟩
end
def frzE (E:Env):Env:= { O:=fun _=>none,C:=fun _=>0,M:=fun _=>False,N:=fun b=>E.M b∨E.N b }
theorem frzX {b:Nat} (hx:Xs (frzE E) [] b):Xs E h b:=by
 rcases hx with ⟨i,hi,_⟩|hx|hx
 ·simp [hget] at hi
 ·exact hx.elim
 ·exact hx.elim (fun h=> .inr (.inl h)) (fun h=> .inr (.inr h))
theorem zlr {b:Nat} (hs:SatH E h W) (ho:Own E h b):¬Xs (frzE E) [] b:=by
 rintro (⟨i,hi,_⟩|hx|hx)
 ·simp [hget] at hi
 ·exact hx.elim
 ·exact hx.elim (hs.own b ho).2.1 (hs.own b ho).2.2
theorem Reps.mapOf {f:AV→AV} (hf:∀a v,Rep W E h a v→Rep W E' h' (f a) v):∀ {aZ:List AV} {vs:List Value},Reps W E h aZ vs→Reps W E' h' (aZ.map f) vs
 | [],vs,hr=>by simpa only [Reps,List.map_nil] using hr
 |x::xs,vs,hr=>by
  simp only [Reps,List.map_cons] at*
  obtain ⟨v,r,rfl,h2,h3⟩:=hr
  exact ⟨v,r,rfl,hf _ _ h2,Reps.mapOf hf h3⟩
theorem RepARows.mapOf {f:AV→AV} {k:Nat} (hf:∀a v,Rep W E h a v→Rep W E' h' (f a) v):∀ {aZ:List (List AV)} {vs:List Value},RepARows W E h k aZ vs→RepARows W E' h' k (aZ.map (List.map f)) vs
 | [],vs,hr=>by simp only [RepARows,List.map_nil]
 |x::xs,vs,hr=>by
  simp only [RepARows,List.map_cons] at*
  obtain ⟨h1,h2,h3⟩:=hr
  exact ⟨by simpa using h1,Reps.mapOf hf h2,RepARows.mapOf hf h3⟩
theorem zls (hs:SatH E h W):∀ (n:Nat) (a:AV) (v:Value),Rep W E h a v→Rep W (frzE E) [] (frz n h a) v:=by
 have hd:∀ (x:D) (v:Value),Rep W E h (.d x) v→Rep W (frzE E) [] (.d x) v:=fun x v hr=>by
  simp only [Rep] at*
  exact RepD.step (fun _ _=>frzX) (fun _ _ _=>rfl) x v hr
 intro n
 induction n with
 |zero=>
  intro a v hr
  cases a<;>first|exact hd _ _ hr|(simp only [frz,Rep])
 | succ n ih=>
  intro a v hr
  have ihs:∀ {aZ:List AV} {vs:List Value},Reps W E h aZ vs→Reps W (frzE E) [] (aZ.map (frz n h)) vs:=fun hr=>Reps.mapOf ih hr
  cases a with
  |d x=>exact hd _ _ hr
  |nils k=>simp only [frz,Rep,RepD] at*;exact .inl ⟨trivial,none,0,hr⟩
  |agg cs=>simp only [frz,Rep] at*;obtain ⟨vs,rfl,h2⟩:=hr;exact ⟨vs,rfl,ihs h2⟩
  |tup cs=>simp only [frz,Rep] at*;obtain ⟨vs,rfl,h2⟩:=hr;exact ⟨vs,rfl,ihs h2⟩
  |dp cs=>
   simp only [frz,Rep] at*
   obtain ⟨a,c,T,fz,rfl,h2,h3,h4,h5⟩:=hr
   exact ⟨a,c,T,fz,rfl,h2,fun hx=>h3 (frzX hx),h4,by rw [List.length_map];exact ihs h5⟩
  |fn f fs cs=>
   simp only [frz,Rep] at*
   obtain ⟨a,b,rfl,h2,h3⟩:=hr
   exact ⟨a,b,rfl,ihs h2,ihs h3⟩
  |asl k rows=>
   simp only [frz,Rep] at*
   obtain ⟨a,cap,c,T,fz,rfl,h2,h3,h4,h5,h6⟩:=hr
   exact ⟨a,cap,c,T,fz,by simp,h2,by simpa using h3,fun hx=>h4 (frzX hx),h5,RepARows.mapOf ih h6⟩
  |nilfn=>simp only [frz,Rep] at*;exact hr
  |nilmap=>simp only [frz,Rep] at*;exact hr
  |iface t x=>simp only [frz,Rep] at*;obtain ⟨y,rfl,h2⟩:=hr;exact ⟨y,rfl,ih _ _ h2⟩
  | vp i off=>
   simp only [frz]
   split
   ·rename_i cs hi
    simp only [Rep] at*
    obtain ⟨b,cs',h1,h2,rfl⟩:=hr
    rw [hi] at h1;cases h1
    have ho:=hs.heap i _ hi
    simp only [RepObj] at ho
    obtain ⟨b',c,T,fz,g1,g2,g3,_⟩:=ho
    rw [h2] at g1;cases g1
    refine ⟨⟨b,off,none⟩,c,T,fz,rfl,rfl,zlr hs ⟨i,by simp [hi],h2⟩,g2,?_⟩
    have:=ihs (Reps.drop g3 off)
    rw [List.take_of_length_le (by have:=Reps.length g3;simp at this ⊢;omega)]
    exact this
   ·simp only [Rep]
  | osl i k m off len=>
   simp only [frz]
   split
   ·rename_i k' xs hi
    split
    ·rename_i hc
     obtain ⟨rfl,rfl,hle⟩:=hc
     simp only [Rep,RepD] at*
     obtain ⟨_,xs',h1,_,h3,h4⟩:=hr
     rw [hi] at h1;cases h1
     have hlen:((xs.drop off).take len).length=len:=by simp;omega
     have ho:=hs.heap i _ hi
     simp only [RepObj] at ho
     rcases h4 rfl with ⟨⟨g1,g10⟩,rfl⟩|⟨b,g1,rfl⟩|⟨g1,rfl,a,cap,rfl⟩
     ·obtain rfl:xs= []:=List.length_eq_zero_iff.1 g10
      exact .inl ⟨by simp,none,0,rfl⟩
     ·rcases ho with ⟨q1,_⟩|⟨b',c,T,fz,q1,q2,q3,q4,q5,_⟩
      ·rw [g1] at q1;cases q1
      ·rw [g1] at q1;cases q1
       refine .inr ⟨⟨b,off*k,none⟩,E.C i - off,c,T,fz,by rw [hlen],rfl,by rw [hlen];omega,zlr hs ⟨i,by simp [hi],g1⟩,q2,?_⟩
       exact RepRows.step (fun _ _=>frzX) (fun _ _ _=>rfl) _ _ _ ((RepRows.drop q5 off).take len)
     ·exact .inl ⟨by simp,a,cap,rfl⟩
    ·simp only [Rep]
   ·simp only [Rep]
  |_=>simp only [frz,Rep]
theorem ACall.read {f:FuncId} {args:List AV} {r:AV} {n fl:Nat} (hc:ACall P f 0 (args.map (frz n h)) [] (fun r' _=>r'=r)) (hsc:r.scal=true):ACallAt P fl f args h (fun r' h'=>r'=r∧h'=h):=by
 obtain ⟨hen,hc⟩:=hc
 refine ⟨hen,fun E w vs hs hr=>?_⟩
 have hs0:SatH (frzE E) [] w:=⟨fun i o ho=>by simp [hget] at ho,fun i j b h1=>by simp [hget] at h1,fun b ⟨i,hi,_⟩=>by simp [hget] at hi,fun _ h=>h.elim,fun b hb=>hb.elim (hs.mlt b) (hs.nlt b)⟩
 refine (hc (frzE E) w vs hs0 (Reps.mapOf (zls hs n) hr)).mono ?_
 rintro e w' ⟨v,E',r',h',rfl,rfl,hs',hr',hev⟩
 have hkeep:∀b,b<w.heap.size→w'.heap[b]?=w.heap[b]?:=fun b hb=>hev.keep b hb (fun ⟨i,hi,_⟩=>by simp [hget] at hi)
 have hrep:∀x y,Rep w E h x y→Rep w' E h x y:=fun x y hxy=>Rep.step (fun _ _ hx=>hx) (fun b hb _=>hkeep b hb) x y (fun j _=>GoesOn.refl E h j) hxy
 refine ⟨v,E,_,h,rfl,⟨rfl,rfl⟩,?_,Rep.scal _ _ hsc hr',⟨hev.os,hev.tape,hev.output,hev.size,fun b hb _=>hkeep b hb,fun b hb=> .inl hb,rfl,rfl,fun i _ hi=>⟨hi,GoesOn.refl E h i⟩⟩,hrep⟩
 refine ⟨fun i o ho=>?_,hs.inj,fun b hb=>⟨Nat.lt_of_lt_of_le (hs.own b hb).1 hev.size,(hs.own b hb).2⟩,fun b hb=>Nat.lt_of_lt_of_le (hs.mlt b hb) hev.size,fun b hb=>Nat.lt_of_lt_of_le (hs.nlt b hb) hev.size⟩
 have:=hs.heap i o ho
 have hlt:∀b,E.O i=some b→b<w.heap.size:=fun b hb=>(hs.own b ⟨i,by simp [ho],hb⟩).1
 cases o with
 |var cs=>
  simp only [RepObj] at this ⊢
  obtain ⟨b,d,T,fz,h1,h2,h3,h4⟩:=this
  exact ⟨b,d,T,fz,h1,(hkeep b (hlt b h1)).trans h2,Reps.step (fun _ _ hx=>hx) (fun b hb _=>hkeep b hb) _ _ (fun j _=>GoesOn.refl E h j) h3,h4⟩
 |tvar tt cs=>
  simp only [RepObj] at this ⊢
  obtain ⟨b,d,T,fz,h1,h2,h3,h4⟩:=this
  exact ⟨b,d,T,fz,h1,(hkeep b (hlt b h1)).trans h2,Reps.step (fun _ _ hx=>hx) (fun b hb _=>hkeep b hb) _ _ (fun j _=>GoesOn.refl E h j) h3,h4⟩
 |arr k xs=>
  simp only [RepObj] at this ⊢
  rcases this with h0|⟨b,d,T,fz,h1,h2,h3,h4,h5,h6⟩
  ·exact .inl h0
  ·exact .inr ⟨b,d,T,fz,h1,(hkeep b (hlt b h1)).trans h2,h3,h4,RepRows.step (fun _ _ hx=>hx) (fun b hb _=>hkeep b hb) _ _ _ h5,h6⟩
 |buf tt xs=>
  simp only [RepObj] at this ⊢
  rcases this with h0|⟨b,d,T,fz,h1,h2,h3,h4,h5,h6⟩
  ·exact .inl h0
  ·exact .inr ⟨b,d,T,fz,h1,(hkeep b (hlt b h1)).trans h2,h3,h4,h5,h6⟩
 |strit l p=>
  simp only [RepObj] at this ⊢
  obtain ⟨b,h1,h2⟩:=this
  exact ⟨b,h1,(hkeep b (hlt b h1)).trans h2⟩
 |omap es=>
  simp only [RepObj] at this ⊢
  obtain ⟨b,mm,cl,h1,h2,h3⟩:=this
  exact ⟨b,mm,cl,h1,(hkeep b (hlt b h1)).trans h2,h3⟩
mutual
theorem zlt:∀ (a:AV) (n:Nat) (h h':AHeap),a.ids= []→frz n h a=frz n h' a
 | .d x,n,h,h',_=>by cases n<;>rfl
 | .nils k,n,h,h',_=>by cases n<;>rfl
 | .agg cs,n,h,h',hi=>by
  cases n with
  |zero=>rfl
  |succ n=>simp only [frz];rw [za4 cs n h h' (by simpa only [AV.ids] using hi)]
 | .tup cs,n,h,h',hi=>by
  cases n with
  |zero=>rfl
  |succ n=>simp only [frz];rw [za4 cs n h h' (by simpa only [AV.ids] using hi)]
 | .dp cs,n,h,h',hi=>by
  cases n with
  |zero=>rfl
  |succ n=>simp only [frz];rw [za4 cs n h h' (by simpa only [AV.ids] using hi)]
 | .fn f fs cs,n,h,h',hi=>by
  simp only [AV.ids,List.append_eq_nil_iff] at hi
  cases n with
  |zero=>rfl
  |succ n=>simp only [frz];rw [za4 fs n h h' hi.1,za4 cs n h h' hi.2]
 | .asl k rows,n,h,h',hi=>by
  cases n with
  |zero=>rfl
  |succ n=>simp only [frz];rw [zjg rows n h h' (by simpa only [AV.ids] using hi)]
 | .nilfn,n,h,h',_| .nilmap,n,h,h',_| .raw _,n,h,h',_| .any,n,h,h',_| .amap _ _,n,h,h',_=>by cases n<;>rfl
 | .iface t v,n,h,h',hi=>by
  cases n with
  |zero=>rfl
  |succ n=>simp only [frz];rw [zlt v n h h' (by simpa only [AV.ids] using hi)]
 | .vp _ _,_,_,_,hi| .tp _ _,_,_,_,hi| .bsl _ _,_,_,_,hi| .ap _ _ _ _ _,_,_,_,hi| .osl _ _ _ _ _,_,_,_,hi| .vsl _ _ _ _,_,_,_,hi| .map _,_,_,_,hi| .itr _,_,_,_,hi=>by simp [AV.ids] at hi
theorem za4:∀ (aZ:List AV) (n:Nat) (h h':AHeap),AV.idsL aZ= []→aZ.map (frz n h)=aZ.map (frz n h')
 | [],_,_,_,_=>rfl
 |x::xs,n,h,h',hi=>by
  simp only [AV.idsL,List.append_eq_nil_iff] at hi
  simp only [List.map_cons]
  rw [zlt x n h h' hi.1,za4 xs n h h' hi.2]
theorem zjg:∀ (aZ:List (List AV)) (n:Nat) (h h':AHeap),AV.idsR aZ= []→aZ.map (List.map (frz n h))=aZ.map (List.map (frz n h'))
 | [],_,_,_,_=>rfl
 |x::xs,n,h,h',hi=>by
  simp only [AV.idsR,List.append_eq_nil_iff] at hi
  simp only [List.map_cons]
  rw [za4 x n h h' hi.1,zjg xs n h h' hi.2]
end
theorem ACall.data {f:FuncId} {args:List AV} {r:AV} {n fl:Nat} (hc:ACall P f 0 (args.map (frz n h)) [] (fun r' _=>r'=r)) (hids:AV.idsL args= []) (hri:r.ids= []):ACallAt P fl f args h (fun r' h'=>r'=r∧h'=h):=by
 obtain ⟨hen,hc⟩:=hc
 refine ⟨hen,fun E w vs hs hr=>?_⟩
 have hs0:SatH (bare (Xs E h)) [] w:=⟨fun i o ho=>by simp [hget] at ho,fun i j b h1=>by simp [hget] at h1,fun b ⟨i,hi,_⟩=>by simp [hget] at hi,fun _ h=>h.elim,fun b hb=>by
  rcases hb with hb|hb|hb
  ·exact (hs.own b hb).1
  ·exact hs.mlt b hb
  ·exact hs.nlt b hb⟩
 have hX0:∀b,b<w.heap.size→Xs (bare (Xs E h)) [] b→Xs E h b:=fun b _ hx=>by
  rcases hx with ⟨i,hi,_⟩|hx|hx
  ·simp [hget] at hi
  ·exact hx.elim
  ·exact hx
 have hr0:Reps w (bare (Xs E h)) [] args vs.toList:=Reps.step hX0 (fun _ _ _=>rfl) _ _ (by rw [hids];simp) hr
 have hr1:Reps w (frzE (bare (Xs E h))) [] (args.map (frz n [])) vs.toList:=Reps.mapOf (zls hs0 n) hr0
 rw [za4 args n [] h hids] at hr1
 have hs1:SatH (frzE (bare (Xs E h))) [] w:=⟨fun i o ho=>by simp [hget] at ho,fun i j b h1=>by simp [hget] at h1,fun b ⟨i,hi,_⟩=>by simp [hget] at hi,fun _ h=>h.elim,fun b hb=>hs0.nlt b (hb.elim (fun h=>h.elim) id)⟩
 refine (hc _ w vs hs1 hr1).mono ?_
 rintro e w' ⟨v,E',r',h',rfl,rfl,hs',hr',hev⟩
 have hkeep:∀b,b<w.heap.size→w'.heap[b]?=w.heap[b]?:=fun b hb=>hev.keep b hb (fun ⟨i,hi,_⟩=>by simp [hget] at hi)
 have hrep:∀x y,Rep w E h x y→Rep w' E h x y:=fun x y hxy=>Rep.step (fun _ _ hx=>hx) (fun b hb _=>hkeep b hb) x y (fun j _=>GoesOn.refl E h j) hxy
 refine ⟨v,E,_,h,rfl,⟨rfl,rfl⟩,?_,?_,⟨hev.os,hev.tape,hev.output,hev.size,fun b hb _=>hkeep b hb,fun b hb=> .inl hb,rfl,rfl,fun i _ hi=>⟨hi,GoesOn.refl E h i⟩⟩,hrep⟩
 ·refine ⟨fun i o ho=>?_,hs.inj,fun b hb=>⟨Nat.lt_of_lt_of_le (hs.own b hb).1 hev.size,(hs.own b hb).2⟩,fun b hb=>Nat.lt_of_lt_of_le (hs.mlt b hb) hev.size,fun b hb=>Nat.lt_of_lt_of_le (hs.nlt b hb) hev.size⟩
  have:=hs.heap i o ho
  have hlt:∀b,E.O i=some b→b<w.heap.size:=fun b hb=>(hs.own b ⟨i,by simp [ho],hb⟩).1
  cases o with
  |var cs=>
   simp only [RepObj] at this ⊢
   obtain ⟨b,d,T,fz,h1,h2,h3,h4⟩:=this
   exact ⟨b,d,T,fz,h1,(hkeep b (hlt b h1)).trans h2,Reps.step (fun _ _ hx=>hx) (fun b hb _=>hkeep b hb) _ _ (fun j _=>GoesOn.refl E h j) h3,h4⟩
  |tvar tt cs=>
   simp only [RepObj] at this ⊢
   obtain ⟨b,d,T,fz,h1,h2,h3,h4⟩:=this
   exact ⟨b,d,T,fz,h1,(hkeep b (hlt b h1)).trans h2,Reps.step (fun _ _ hx=>hx) (fun b hb _=>hkeep b hb) _ _ (fun j _=>GoesOn.refl E h j) h3,h4⟩
  |arr k xs=>
   simp only [RepObj] at this ⊢
   rcases this with h0|⟨b,d,T,fz,h1,h2,h3,h4,h5,h6⟩
   ·exact .inl h0
   ·exact .inr ⟨b,d,T,fz,h1,(hkeep b (hlt b h1)).trans h2,h3,h4,RepRows.step (fun _ _ hx=>hx) (fun b hb _=>hkeep b hb) _ _ _ h5,h6⟩
  |buf tt xs=>
   simp only [RepObj] at this ⊢
   rcases this with h0|⟨b,d,T,fz,h1,h2,h3,h4,h5,h6⟩
   ·exact .inl h0
   ·exact .inr ⟨b,d,T,fz,h1,(hkeep b (hlt b h1)).trans h2,h3,h4,h5,h6⟩
  |strit l p=>
   simp only [RepObj] at this ⊢
   obtain ⟨b,h1,h2⟩:=this
   exact ⟨b,h1,(hkeep b (hlt b h1)).trans h2⟩
  |omap es=>
   simp only [RepObj] at this ⊢
   obtain ⟨b,mm,cl,h1,h2,h3⟩:=this
   exact ⟨b,mm,cl,h1,(hkeep b (hlt b h1)).trans h2,h3⟩
 ·refine Rep.step (E:=E') (h:=h') (fun b _ hx=>?_) (fun _ _ _=>rfl) _ v (by rw [hri];simp) hr'
  refine .inr (.inr ?_)
  rw [hev.n]
  exact .inr hx
theorem ACallAt.mono {f:FuncId} {fl:Nat} {args:List AV} {K K':AV→AHeap→Prop} (hc:ACallAt P fl f args h K) (hk:∀r h,K r h→K' r h):ACallAt P fl f args h K':=
 ⟨hc.1,fun E w vs hs hr=>(hc.2 E w vs hs hr).mono fun e w' ⟨v,E',r,h',h1,h2,h3⟩=>⟨v,E',r,h',h1,hk _ _ h2,h3⟩⟩
end
def aopS (cx:Cx) (G:Bool) (o:Oper) (K:AS→Prop) (s:AS):Prop:=
 dstOk cx.nt o.dst∧if G=true then aop1 cx o K s else K (s.put o.dst false .any)
def zbd (P:Program):Op→Bool
 | .move _=>true
 | .assign _=>true
 | .pick _ _ _=>true
 |op=>isVal P op
def aopT (cx:Cx) (tab:Tab) (G:Bool) (o:Oper) (K:AS→Prop) (s:AS):Prop:=
 match o.op with
 | .call c=>if isVal cx.P (.call c) then aop cx G o K s else
  (match z6 cx.P s c with
  |some (f,args,vc)=>(match tab f (args.map (frz 9 s.h)) with
   |some (pre,r)=>dstOk cx.nt o.dst∧(G=true→vc∧pre∧(r.scal=true∨AV.idsL args= []))∧K (s.put o.dst G r)
   |none=>aopS cx G o K s)
  |none=>aopS cx G o K s)
 |op=>if zbd cx.P op then aop cx G o K s else aopS cx G o K s
def aopsT (cx:Cx) (tab:Tab) (all:Array Oper):List Oper→(AS→Prop)→AS→Prop
 | [],K,s=>K s
 |o::r,K,s=>match zaa s all o.guard with
  |some G=>aopT cx tab G o (aopsT cx tab all r K) s
  |none=>False
section
variable {cx : Cx} {tab : Tab} {E : Env} {s : AS} {a : Act} {w : World}
theorem zaE {all:Array Oper} {o:Oper} {G:Bool} (hs:Slots w E s a) (hg:zaa s all o.guard=some G):Region.wanted o (yielded all a.tmps)=G:=by
 unfold zaa at hg
 unfold Region.wanted
 cases ho:o.guard with
 |none=>simp [ho] at hg;simp [hg]
 | some p=>
  obtain ⟨j,want⟩:=p
  simp only [ho] at hg ⊢
  unfold yielded
  cases hj:(all[j]?).bind (·.dst) with
  |none=>simp [hj] at hg
  | some d=>
   simp only [hj] at hg
   cases hl:lk s.t d with
   |none=>simp [hl] at hg
   | some q=>
    obtain ⟨g,v⟩:=q
    obtain ⟨x,hx,hr,hu⟩:=hs d g v hl
    simp only [hl] at hg
    simp only [Option.bind_some,hx]
    split at hg
    ·rename_i g' b e
     simp only [Option.some.injEq,Prod.mk.injEq] at e hg
     obtain ⟨rfl,rfl⟩:=e
     subst hg
     cases g with
     |true=>
      have:=hr rfl
      simp only [Rep,RepD] at this
      subst this
      cases b<;>cases want<;>rfl
     |false=>
      have:=hu rfl
      subst this
      simp [undef]
    ·rename_i v' e
     simp only [Option.some.injEq,Prod.mk.injEq] at e hg
     obtain ⟨rfl,rfl⟩:=e
     subst hg
     have:=hu rfl
     subst this
     simp [undef]
    ·cases hg
theorem zgb {o:Oper} {G:Bool} {K:AS→Prop} (hq:zbd cx.P o.op=false) (h:aopS cx G o K s):aop cx G o K s:=by
 obtain ⟨hd,h⟩:=h
 refine ⟨hd,?_⟩
 split
 ·rename_i x he;rw [he] at hq;cases hq
 ·rename_i x he;rw [he] at hq;cases hq
 ·rename_i x y z he;rw [he] at hq;cases hq
 ·have hv:isVal cx.P o.op=false:=by
   cases hop:o.op<;>rw [hop] at hq<;>first|exact hq|rfl
  rw [if_neg (by simp [hv])]
  cases G
  ·exact ⟨(fun e=>by cases e),fun _=>by simpa using h⟩
  ·exact ⟨(fun _=>by simpa using h),fun e=>by cases e⟩
theorem zdB (ht:TabOk cx.P tab) {all:Array Oper} {o:Oper} {G:Bool} {K:AS→Prop} {Q:Exit→Act→World→Prop} (hs:Sat cx E s a w) (hg:zaa s all o.guard=some G) (h:aopT cx tab G o K s):
  if Region.wanted o (yielded all a.tmps) then o.wpIn cx.F 0 cx.P a w (Reach cx E s.h w K) Q else (∀f,o.about cx.P w a.eval=some f→cx.F.fn f)∧Reach cx E s.h w K (a.put o.dst undef) w:=by
 unfold aopT at h
 split at h
 ·rename_i c hop
  split at h
  ·exact zg3 hs hg h
  ·rename_i hnv
   split at h
   ·rename_i f args vc hcall
    split at h
    ·rename_i pre r htab
     obtain ⟨hd,hv,hk⟩:=h
     rw [zaE hs.slots hg]
     cases G with
     | true=>
      obtain ⟨hvc,hpre,hor⟩:=hv rfl
      obtain ⟨hri,hc⟩:=ht.ok _ _ _ _ htab hpre
      simp only [if_true]
      refine zcF hs hd ?_
      unfold aop1
      rw [hop]
      simp only [hnv,hcall]
      have hcc:ACallAt cx.P cx.fl f args s.h (fun r' h'=>r'=r∧h'=s.h):=by
       rcases hor with hsc|hids
       ·exact hc.read hsc
       ·exact hc.data hids hri
      refine ⟨hvc,hcc.mono ?_⟩
      rintro r' h' ⟨rfl,rfl⟩
      exact hk
     |false=>
      simp only [Bool.false_eq_true,if_false]
      exact ⟨fun _ _=>trivial,E,_,hk,hs.put (fun k e=>by rw [e] at hd;exact hd) (fun e=>by cases e) (fun _=>rfl),by cases o.dst<;>exact Evo.refl _ _ _ _⟩
    ·exact zg3 hs hg (zgb (by rw [hop];simpa [zbd] using hnv) h)
   ·exact zg3 hs hg (zgb (by rw [hop];simpa [zbd] using hnv) h)
 ·split at h
  ·exact zg3 hs hg h
  ·rename_i hq
   exact zg3 hs hg (zgb (by simpa using hq) h)
theorem zd9 (ht:TabOk cx.P tab) {all:Array Oper} :∀ (l:List Nat) (ops:List Oper) {K:AS→Prop} {s:AS} {E:Env} {a:Act} {w:World},l.map (all[·]?)=ops.map some→Sat cx E s a w→aopsT cx tab all ops K s→
  wpOpsIn cx.F 0 cx.P all (fun e a' w'=>e= .normal∧Reach cx E s.h w K a' w') l a w
 | [],ops,K,s,E,a,w,hl,hs,h=>by
  have:ops= []:=by simpa using hl.symm
  subst this
  exact ⟨rfl,zdp hs h⟩
 |i::l,[],K,s,E,a,w,hl,hs,h=>by simp at hl
 | i::l,o::ops,K,s,E,a,w,hl,hs,h=>by
  simp only [List.map_cons,List.cons.injEq] at hl
  obtain ⟨hi,hl⟩:=hl
  simp only [aopsT] at h
  split at h
  ·rename_i G hg
   simp only [wpOpsIn,hi]
   have:=zdB ht (Q:=fun _ _ _=>False) hs hg h
   split at this
   ·rename_i hw
    rw [if_pos hw]
    refine zZ this ?_
    rintro a1 w1 ⟨E1,s1,hk,hs1,he1⟩
    have ih:=zd9 ht l ops hl hs1 hk
    refine zw _ ih ?_
    rintro e a2 w2 ⟨rfl,hr⟩
    exact ⟨rfl,hr.trans he1⟩
   ·rename_i hw
    rw [if_neg hw]
    refine ⟨this.1,?_⟩
    obtain ⟨E1,s1,hk,hs1,he1⟩:=this.2
    have ih:=zd9 ht l ops hl hs1 hk
    refine zw _ ih ?_
    rintro e a2 w2 ⟨rfl,hr⟩
    exact ⟨rfl,hr.trans he1⟩
  ·exact h.elim
theorem zdC {id:Nat} {ops:Array Oper} {Q:Exit→AS→Prop} (tab:Tab) (ht:TabOk cx.P tab) (h:aopsT cx tab ops ops.toList (Q .normal) s):AW cx (.region id ops false) Q s:=fun E a w hs=>
 wpIn_region (zw _ (zd9 ht _ _ (zbz ops) hs h) (by rintro e a' w' ⟨rfl,hr⟩;exact hr))
theorem zbs {id:Nat} {ops:Array Oper} {y:Code} {Q:Exit→AS→Prop} (tab:Tab) (ht:TabOk cx.P tab) (h:∀K,(∀s',AW cx y Q s'→K s')→aopsT cx tab ops ops.toList K s):AW cx (.seq (.region id ops false) y) Q s:=
 zbh fun K hK=>zdC tab ht (h K hK)
end
@[go_sem] theorem frz_d (n:Nat) (h:AHeap) (x:D):frz n h (.d x)= .d x:=by cases n<;>rfl
@[go_sem] theorem frz_nils (n:Nat) (h:AHeap) (k:Nat):frz (n+1) h (.nils k)= .d (.sl k []):=rfl
@[go_sem] theorem frz_agg (n:Nat) (h:AHeap) (cs:List AV):frz (n+1) h (.agg cs)= .agg (cs.map (frz n h)):=rfl
@[go_sem] theorem frz_tup (n:Nat) (h:AHeap) (cs:List AV):frz (n+1) h (.tup cs)= .tup (cs.map (frz n h)):=rfl
@[go_sem] theorem frz_dp (n:Nat) (h:AHeap) (cs:List AV):frz (n+1) h (.dp cs)= .dp (cs.map (frz n h)):=rfl
@[go_sem] theorem frz_fn (n:Nat) (h:AHeap) (f:Fn) (fs cs:List AV):frz (n+1) h (.fn f fs cs)= .fn f (fs.map (frz n h)) (cs.map (frz n h)):=rfl
@[go_sem] theorem frz_asl (n:Nat) (h:AHeap) (k:Nat) (rows:List (List AV)):frz (n+1) h (.asl k rows)= .asl k (rows.map (List.map (frz n h))):=rfl
@[go_sem] theorem zp7 (n:Nat) (h:AHeap):frz (n+1) h .nilfn= .nilfn:=rfl
@[go_sem] theorem zpW (n:Nat) (h:AHeap):frz (n+1) h .nilmap= .nilmap:=rfl
@[go_sem] theorem zp8 (n:Nat) (h:AHeap) (t:Nat) (v:AV):frz (n+1) h (.iface t v)= .iface t (frz n h v):=rfl
@[go_sem] theorem frz_vp (n:Nat) (h:AHeap) (i off:Nat):frz (n+1) h (.vp i off)=(match hget h i with
   |some (.var cs)=> .dp ((cs.drop off).map (frz n h))
   |_=> .any):=rfl
@[go_sem] theorem frz_osl (n:Nat) (h:AHeap) (i k m off len:Nat):frz (n+1) h (.osl i k m off len)=(match hget h i with
   |some (.arr k' xs)=>if k=k'∧m=xs.length∧off+len≤m then .d (.sl k ((xs.drop off).take len)) else .any
   |_=> .any):=rfl
@[go_sem] theorem zpX (f:FuncId) (l:List AV):noTab f l=none:=rfl
attribute [go_sem] aopsT aopT aopS zbd AV.scal AV.scalL D.scal AV.ids AV.idsL AV.idsR
open Go
def hsel (p:Nat→Bool):AHeap→AHeap
 | []=> []
 |(i,o)::r=>if p i=true then (i,o)::hsel p r else hsel p r
theorem zk {p:Nat→Bool} :∀ (h:AHeap) (i:Nat),hget (hsel p h) i=if p i=true then hget h i else none
  | [],i=>by simp [hsel,hget]
  | (j,o)::r,i=>by
    simp only [hsel,hget]
    by_cases hj:p j=true
    · simp only [hj,if_true,hget]
      by_cases e:j=i
      · subst e;simp [hj]
      · simp only [e,if_false];exact zk r i
    · simp only [hj,if_false,Bool.false_eq_true]
      rw [zk r i]
      by_cases e:j=i
      · subst e;simp [hj]
      · simp only [e,if_false]
theorem zaK:∀ (a b:AHeap) (i:Nat),hget (a++b) i=(hget a i).or (hget b i)
  | [],b,i=>by simp [hget]
  | (j,o)::r,b,i=>by
    simp only [List.cons_append,hget]
    by_cases e:j=i
    · simp [e]
    · simp only [e,if_false];exact zaK r b i
section
variable {P : Program} {w w' : World} {E E1 E2 : Env} {h h1 h2 : AHeap} {p : Nat → Bool}
theorem zcm (j:Nat) (hj:p j=true):GoesOn E h E (hsel p h) j:=by
 unfold GoesOn
 rw [zk,if_pos hj]
 split<;>simp_all
theorem zB {b:Nat} (ho:Own E (hsel p h) b):Own E h b:=by
 obtain ⟨i,hi,hb⟩:=ho
 rw [zk] at hi
 split at hi
 ·exact ⟨i,hi,hb⟩
 ·simp at hi
theorem zlu {b:Nat} (ho:Xs E (hsel p h) b):Xs E h b:=ho.imp zB id
def Closed (p:Nat→Bool) (h:AHeap):Prop:=∀i o,hget h i=some o→p i=true→∀j∈o.ids,p j=true
theorem zlv {a:AV} {v:Value} (ha:∀j∈a.ids,p j=true) (hr:Rep w E h a v):Rep w E (hsel p h) a v:=
 Rep.step (fun _ _=>zlu) (fun _ _ _=>rfl) a v (fun j hj=>zcm j (ha j hj)) hr
theorem zgc {a:List AV} {v:List Value} (ha:∀j∈AV.idsL a,p j=true) (hr:Reps w E h a v):Reps w E (hsel p h) a v:=
 Reps.step (fun _ _=>zlu) (fun _ _ _=>rfl) a v (fun j hj=>zcm j (ha j hj)) hr
theorem zgd (hs:SatH E h w) (hc:Closed p h):SatH E (hsel p h) w where
 heap:=fun i o ho=>by
  rw [zk] at ho
  split at ho
  ·rename_i hpi
   have:=hs.heap i o ho
   have hcl:=hc i o ho hpi
   cases o with
   |var cs=>
    simp only [RepObj] at this ⊢
    obtain ⟨b,c,T,fz,g1,g2,g3,g4⟩:=this
    exact ⟨b,c,T,fz,g1,g2,zgc hcl g3,g4⟩
   |tvar tt cs=>
    simp only [RepObj] at this ⊢
    obtain ⟨b,c,T,fz,g1,g2,g3,g4⟩:=this
    exact ⟨b,c,T,fz,g1,g2,zgc hcl g3,g4⟩
   |arr k xs=>
    simp only [RepObj] at this ⊢
    rcases this with g|⟨b,c,T,fz,g1,g2,g3,g4,g5,g6⟩
    ·exact .inl g
    ·exact .inr ⟨b,c,T,fz,g1,g2,g3,g4,RepRows.step (fun _ _=>zlu) (fun _ _ _=>rfl) _ _ _ g5,g6⟩
   |buf tt xs=>
    simp only [RepObj] at this ⊢
    rcases this with g|⟨b,c,T,fz,g1,g2,g3,g4,g5,g6⟩
    ·exact .inl g
    ·exact .inr ⟨b,c,T,fz,g1,g2,g3,g4,g5,g6⟩
   |strit l q=>exact this
   |omap es=>exact this
  ·cases ho
 inj:=fun i j b hi hj=>by
  rw [zk] at hi hj
  split at hi
  ·split at hj
   ·exact hs.inj i j b hi hj
   ·simp at hj
  ·simp at hi
 own:=fun b hb=>hs.own b (zB hb)
 mlt:=hs.mlt
 nlt:=hs.nlt
def joinE (p:Nat→Bool) (E1 E2:Env) (M N:Nat→Prop):Env:=
 { O:=fun i=>if p i=true then E1.O i else E2.O i,C:=fun i=>if p i=true then E1.C i else E2.C i,M:=M,N:=N }
structure Apart (p:Nat→Bool) (E1:Env) (h1:AHeap) (E2:Env) (h2:AHeap) (M N:Nat→Prop):Prop where
 n1:∀i,(hget h1 i).isSome→p i=true
 n2:∀i,(hget h2 i).isSome→p i=false
 o1:∀b,Own E1 h1 b→E2.M b∨E2.N b
 o2:∀b,Own E2 h2 b→E1.M b∨E1.N b
 m1:∀b,M b→E1.M b∨E1.N b
 m2:∀b,M b→E2.M b∨E2.N b
 k1:∀b,N b→E1.M b∨E1.N b
 k2:∀b,N b→E2.M b∨E2.N b
section
variable {M N : Nat → Prop}
theorem Apart.get1 (ap:Apart p E1 h1 E2 h2 M N) {i:Nat} (hi:p i=true):hget (h1++h2) i=hget h1 i:=by
 rw [zaK]
 cases e:hget h1 i with
 |some o=>rfl
 |none=>
  cases e2:hget h2 i with
  |none=>rfl
  |some o=>have:=ap.n2 i (by simp [e2]);rw [hi] at this;cases this
theorem Apart.get2 (ap:Apart p E1 h1 E2 h2 M N) {i:Nat} (hi:p i=false):hget (h1++h2) i=hget h2 i:=by
 rw [zaK]
 cases e:hget h1 i with
 |some o=>have:=ap.n1 i (by simp [e]);rw [hi] at this;cases this
 |none=>rfl
theorem Apart.own (ap:Apart p E1 h1 E2 h2 M N) {b:Nat} (ho:Own (joinE p E1 E2 M N) (h1++h2) b):Own E1 h1 b∨Own E2 h2 b:=by
 obtain ⟨i,hi,hb⟩:=ho
 by_cases hp:p i=true
 ·rw [ap.get1 hp] at hi
  exact .inl ⟨i,hi,by simpa [joinE,hp] using hb⟩
 ·have hp':p i=false:=by simpa using hp
  rw [ap.get2 hp'] at hi
  exact .inr ⟨i,hi,by simpa [joinE,hp'] using hb⟩
theorem Apart.xs1 (ap:Apart p E1 h1 E2 h2 M N) {b:Nat} (hx:Xs (joinE p E1 E2 M N) (h1++h2) b):Xs E1 h1 b:=by
 rcases hx with hx|hx|hx
 ·rcases ap.own hx with h|h
  ·exact .inl h
  ·exact .inr (ap.o2 b h)
 ·exact .inr (ap.m1 b hx)
 ·exact .inr (ap.k1 b hx)
theorem Apart.xs2 (ap:Apart p E1 h1 E2 h2 M N) {b:Nat} (hx:Xs (joinE p E1 E2 M N) (h1++h2) b):Xs E2 h2 b:=by
 rcases hx with hx|hx|hx
 ·rcases ap.own hx with h|h
  ·exact .inr (ap.o1 b h)
  ·exact .inl h
 ·exact .inr (ap.m2 b hx)
 ·exact .inr (ap.k2 b hx)
theorem Apart.goes1 (ap:Apart p E1 h1 E2 h2 M N) (i:Nat):GoesOn E1 h1 (joinE p E1 E2 M N) (h1++h2) i:=by
 unfold GoesOn
 cases e:hget h1 i with
 |none=>trivial
 |some o=>
  have hp:=ap.n1 i (by simp [e])
  rw [ap.get1 hp,e]
  cases o<;>simp [joinE,hp]
theorem Apart.goes2 (ap:Apart p E1 h1 E2 h2 M N) (i:Nat):GoesOn E2 h2 (joinE p E1 E2 M N) (h1++h2) i:=by
 unfold GoesOn
 cases e:hget h2 i with
 |none=>trivial
 |some o=>
  have hp:=ap.n2 i (by simp [e])
  rw [ap.get2 hp,e]
  cases o<;>simp [joinE,hp]
theorem RepObj.move {E E':Env} {h h':AHeap} {i:Nat} {o:AObj} (hO:E'.O i=E.O i) (hC:E'.C i=E.C i) (hX:∀b,Xs E' h' b→Xs E h b) (hg:∀j,GoesOn E h E' h' j) (hr:RepObj w E h i o):RepObj w E' h' i o:=by
 cases o with
 |var cs=>
  simp only [RepObj,hO] at hr ⊢
  obtain ⟨b,c,T,fz,g1,g2,g3,g4⟩:=hr
  exact ⟨b,c,T,fz,g1,g2,Reps.step (fun b _=>hX b) (fun _ _ _=>rfl) _ _ (fun j _=>hg j) g3,g4⟩
 |tvar tt cs=>
  simp only [RepObj,hO] at hr ⊢
  obtain ⟨b,c,T,fz,g1,g2,g3,g4⟩:=hr
  exact ⟨b,c,T,fz,g1,g2,Reps.step (fun b _=>hX b) (fun _ _ _=>rfl) _ _ (fun j _=>hg j) g3,g4⟩
 |arr k xs=>
  simp only [RepObj,hO,hC] at hr ⊢
  rcases hr with g|⟨b,c,T,fz,g1,g2,g3,g4,g5,g6⟩
  ·exact .inl g
  ·exact .inr ⟨b,c,T,fz,g1,g2,g3,g4,RepRows.step (fun b _=>hX b) (fun _ _ _=>rfl) _ _ _ g5,g6⟩
 |buf tt xs=>
  simp only [RepObj,hO,hC] at hr ⊢
  rcases hr with g|⟨b,c,T,fz,g1,g2,g3,g4,g5,g6⟩
  ·exact .inl g
  ·exact .inr ⟨b,c,T,fz,g1,g2,g3,g4,g5,g6⟩
 |strit l q=>simp only [RepObj,hO] at hr ⊢;exact hr
 |omap es=>simp only [RepObj,hO] at hr ⊢;exact hr
theorem Apart.sat (ap:Apart p E1 h1 E2 h2 M N) (hs1:SatH E1 h1 w) (hs2:SatH E2 h2 w) (hM:∀b,M b→b<w.heap.size) (hN:∀b,N b→b<w.heap.size):SatH (joinE p E1 E2 M N) (h1++h2) w where
 heap:=fun i o ho=>by
  by_cases hp:p i=true
  ·rw [ap.get1 hp] at ho
   exact RepObj.move (by simp [joinE,hp]) (by simp [joinE,hp]) (fun _=>ap.xs1) ap.goes1 (hs1.heap i o ho)
  ·have hp':p i=false:=by simpa using hp
   rw [ap.get2 hp'] at ho
   exact RepObj.move (by simp [joinE,hp']) (by simp [joinE,hp']) (fun _=>ap.xs2) ap.goes2 (hs2.heap i o ho)
 inj:=fun i j b hi hj h1' h2'=>by
  have key:∀i j,p i=true→p j=false→(hget (h1++h2) i).isSome→(hget (h1++h2) j).isSome→(joinE p E1 E2 M N).O i=some b→(joinE p E1 E2 M N).O j=some b→False:=by
   intro i j hpi hpj hi hj e1 e2
   rw [ap.get1 hpi] at hi
   rw [ap.get2 hpj] at hj
   have o1:Own E1 h1 b:=⟨i,hi,by simpa [joinE,hpi] using e1⟩
   have o2:Own E2 h2 b:=⟨j,hj,by simpa [joinE,hpj] using e2⟩
   have:=hs2.own b o2
   exact (ap.o1 b o1).elim this.2.1 this.2.2
  by_cases hpi:p i=true
  ·by_cases hpj:p j=true
   ·rw [ap.get1 hpi] at hi
    rw [ap.get1 hpj] at hj
    exact hs1.inj i j b hi hj (by simpa [joinE,hpi] using h1') (by simpa [joinE,hpj] using h2')
   ·exact (key i j hpi (by simpa using hpj) hi hj h1' h2').elim
  ·have hpi':p i=false:=by simpa using hpi
   by_cases hpj:p j=true
   ·exact (key j i hpj hpi' hj hi h2' h1').elim
   ·have hpj':p j=false:=by simpa using hpj
    rw [ap.get2 hpi'] at hi
    rw [ap.get2 hpj'] at hj
    exact hs2.inj i j b hi hj (by simpa [joinE,hpi'] using h1') (by simpa [joinE,hpj'] using h2')
 own:=fun b hb=>by
  rcases ap.own hb with ho|ho
  ·have:=hs1.own b ho
   exact ⟨this.1,fun hm=>(ap.m1 b hm).elim this.2.1 this.2.2,fun hn=>(ap.k1 b hn).elim this.2.1 this.2.2⟩
  ·have:=hs2.own b ho
   exact ⟨this.1,fun hm=>(ap.m2 b hm).elim this.2.1 this.2.2,fun hn=>(ap.k2 b hn).elim this.2.1 this.2.2⟩
 mlt:=hM
 nlt:=hN
end
theorem ACall.frame {f:FuncId} {args:List AV} {fl fl':Nat} {K:AV→AHeap→Prop} (hc:ACall P f fl args (hsel p h) K) (hfl:∀i,(hget h i).isSome→i<fl) (hp:∀i,fl≤i→p i=true) (hcl:Closed p h) (ha:∀j∈AV.idsL args,p j=true) (hle:fl'≤fl)
  (hk:∀r h',K r h'→(∀i,(hget h i).isSome→p i=true→(hget h' i).isSome)∧(∀i,(hget h' i).isSome→p i=true)):
  ACallAt P fl' f args h (fun r h'=>∃h1,K r h1∧h'=h1++hsel (fun i=> !p i) h):=by
 refine ⟨hc.1,fun E w vs hs hr=>?_⟩
 have hsp:SatH E (hsel p h) w:=zgd hs hcl
 let E1:Env:= { O:=E.O,C:=E.C,M:=E.M,N:=fun b=>E.N b∨Own E (hsel (fun i=> !p i) h) b }
 have hown:∀b,Own E (hsel p h) b→¬Own E (hsel (fun i=> !p i) h) b:=by
  rintro b ⟨i,hi,hb⟩ ⟨j,hj,hb'⟩
  rw [zk] at hi hj
  split at hi
  ·rename_i hpi
   split at hj
   ·rename_i hpj
    have:=hs.inj i j b hi hj hb hb'
    subst this
    rw [hpi] at hpj;cases hpj
   ·simp at hj
  ·simp at hi
 have hX:∀b,Xs E1 (hsel p h) b→Xs E h b:=by
  rintro b (hx|hx|hx|hx)
  ·exact .inl (zB hx)
  ·exact .inr (.inl hx)
  ·exact .inr (.inr hx)
  ·exact .inl (zB hx)
 have hgo2:∀j,p j=true→GoesOn E h E1 (hsel p h) j:=fun j hj=>by
  unfold GoesOn
  rw [zk,if_pos hj]
  split<;>simp_all [E1]
 have hs1:SatH E1 (hsel p h) w:=by
  refine ⟨fun i o ho=>?_,hsp.inj,fun b hb=>?_,hs.mlt,fun b hb=>?_⟩
  ·have ho':=ho
   rw [zk] at ho'
   split at ho'
   ·rename_i hpi
    have:=hs.heap i o ho'
    have hids:=hcl i o ho' hpi
    cases o with
    |var cs=>
     simp only [RepObj] at this ⊢
     obtain ⟨b,c,T,fz,g1,g2,g3,g4⟩:=this
     exact ⟨b,c,T,fz,g1,g2,Reps.step (fun b _=>hX b) (fun _ _ _=>rfl) _ _ (fun j hj=>hgo2 j (hids j hj)) g3,g4⟩
    |tvar tt cs=>
     simp only [RepObj] at this ⊢
     obtain ⟨b,c,T,fz,g1,g2,g3,g4⟩:=this
     exact ⟨b,c,T,fz,g1,g2,Reps.step (fun b _=>hX b) (fun _ _ _=>rfl) _ _ (fun j hj=>hgo2 j (hids j hj)) g3,g4⟩
    |arr k xs=>
     simp only [RepObj] at this ⊢
     rcases this with g|⟨b,c,T,fz,g1,g2,g3,g4,g5,g6⟩
     ·exact .inl g
     ·exact .inr ⟨b,c,T,fz,g1,g2,g3,g4,RepRows.step (fun b _=>hX b) (fun _ _ _=>rfl) _ _ _ g5,g6⟩
    |buf tt xs=>
     simp only [RepObj] at this ⊢
     rcases this with g|⟨b,c,T,fz,g1,g2,g3,g4,g5,g6⟩
     ·exact .inl g
     ·exact .inr ⟨b,c,T,fz,g1,g2,g3,g4,g5,g6⟩
    |strit l q=>exact this
    |omap es=>exact this
   ·cases ho'
  ·have:=hsp.own b hb
   exact ⟨this.1,this.2.1,fun hn=>hn.elim this.2.2 (hown b hb)⟩
  ·exact hb.elim (hs.nlt b) (fun h=>(hs.own b (zB h)).1)
 have hr1:Reps w E1 (hsel p h) args vs.toList:=Reps.step (fun b _=>hX b) (fun _ _ _=>rfl) _ _ (fun j hj=>hgo2 j (ha j hj)) hr
 refine (hc.2 E1 w vs hs1 hr1).mono ?_
 rintro e w' ⟨v,E',r,h',rfl,hK,hs',hr',hev⟩
 obtain ⟨hk1,hk2⟩:=hk r h' hK
 obtain ⟨q,hq⟩:∃q:Nat→Bool,q=fun i=> !p i:=⟨_,rfl⟩
 obtain ⟨E2,hE2⟩:∃E2:Env,E2=joinE p E' E E.M E.N:=⟨_,rfl⟩
 have hg1:∀i,p i=true→hget (h'++hsel (fun i=> !p i) h) i=hget h' i:=fun i hi=>by
  rw [zaK,zk]
  simp [hi]
 have hg2:∀i,p i=false→hget (h'++hsel (fun i=> !p i) h) i=hget h i:=fun i hi=>by
  have hn:hget h' i=none:=by
   cases e:hget h' i with
   |none=>rfl
   |some o=>have:=hk2 i (by simp [e]);rw [hi] at this;cases this
  rw [zaK,zk,hn]
  simp [hi]
 have hO1:∀i,p i=true→E2.O i=E'.O i∧E2.C i=E'.C i:=fun i hi=>by rw [hE2];simp [joinE,hi]
 have hO2:∀i,p i=false→E2.O i=E.O i∧E2.C i=E.C i:=fun i hi=>by rw [hE2];simp [joinE,hi]
 have hM2:E2.M=E.M:=by rw [hE2];rfl
 have hN2:E2.N=E.N:=by rw [hE2];rfl
 have hnown':∀b,Own E' h' b→¬Own E (hsel (fun i=> !p i) h) b:=fun b hb ho=>by
  have:=(hs'.own b hb).2.2
  rw [hev.n] at this
  exact this (.inr ho)
 have hown2:∀b,Own E2 (h'++hsel (fun i=> !p i) h) b→Own E' h' b∨Own E (hsel (fun i=> !p i) h) b:=by
  rintro b ⟨i,hi,hb⟩
  by_cases hpi:p i=true
  ·rw [hg1 i hpi] at hi
   exact .inl ⟨i,hi,by rw [← (hO1 i hpi).1];exact hb⟩
  ·have hpi':p i=false:=by simpa using hpi
   rw [hg2 i hpi'] at hi
   exact .inr ⟨i,by rw [zk];simpa [hpi'] using hi,by rw [← (hO2 i hpi').1];exact hb⟩
 have hkeep:∀b,b<w.heap.size→¬Own E (hsel p h) b→w'.heap[b]?=w.heap[b]?:=fun b hb ho=>hev.keep b hb ho
 have hXb:∀b,b<w.heap.size→Xs E2 (h'++hsel (fun i=> !p i) h) b→Xs E h b:=by
  rintro b hb (hx|hx|hx)
  ·rcases hown2 b hx with hx|hx
   ·exact (hev.own b hx).elim (fun h=> .inl (zB h)) (fun h=>by omega)
   ·exact .inl (zB hx)
  ·exact .inr (.inl (by rwa [hM2] at hx))
  ·exact .inr (.inr (by rwa [hN2] at hx))
 have hKb:∀b,b<w.heap.size→¬Xs E h b→w'.heap[b]?=w.heap[b]?:=fun b hb hx=>hkeep b hb (fun ho=>hx (.inl (zB ho)))
 have hgo3:∀j,GoesOn E h E2 (h'++hsel (fun i=> !p i) h) j:=by
  intro j
  by_cases hj:(hget h j).isSome
  ·by_cases hpj:p j=true
   ·have hgj:=(hev.go j (hfl j hj) (hk1 j hj hpj)).2
    unfold GoesOn at hgj ⊢
    rw [zk,if_pos hpj] at hgj
    rw [hg1 j hpj,(hO1 j hpj).1,(hO1 j hpj).2]
    exact hgj
   ·have hpj':p j=false:=by simpa using hpj
    unfold GoesOn
    rw [hg2 j hpj',(hO2 j hpj').1,(hO2 j hpj').2]
    split<;>simp_all
  ·unfold GoesOn
   split
   ·rename_i cs hh;exact (hj (by simp [hh])).elim
   ·rename_i k xs hh;exact (hj (by simp [hh])).elim
   ·rename_i l p hh;exact (hj (by simp [hh])).elim
   ·rename_i es hh;exact (hj (by simp [hh])).elim
   ·rename_i tt cs hh;exact (hj (by simp [hh])).elim
   ·rename_i tt cs hh;exact (hj (by simp [hh])).elim
   ·trivial
 have hrep:∀x y,Rep w E h x y→Rep w' E2 (h'++hsel (fun i=> !p i) h) x y:=fun x y hxy=>Rep.step hXb hKb x y (fun j _=>hgo3 j) hxy
 have hX1:∀b,Xs E2 (h'++hsel (fun i=> !p i) h) b→Xs E' h' b:=by
  rintro b (hx|hx|hx)
  ·rcases hown2 b hx with hx|hx
   ·exact .inl hx
   ·exact .inr (.inr (by rw [hev.n];exact .inr hx))
  ·exact .inr (.inl (by rw [hev.m];rwa [hM2] at hx))
  ·exact .inr (.inr (by rw [hev.n];exact .inl (by rwa [hN2] at hx)))
 have hgo1:∀j,GoesOn E' h' E2 (h'++hsel (fun i=> !p i) h) j:=by
  intro j
  unfold GoesOn
  cases e:hget h' j with
  |none=>trivial
  |some o=>
   have hpj:=hk2 j (by simp [e])
   rw [hg1 j hpj,e,(hO1 j hpj).1,(hO1 j hpj).2]
   cases o<;>simp
 have hlt:∀i o,hget h i=some o→p i=false→∀b,E.O i=some b→b<w.heap.size∧¬Own E (hsel p h) b:=fun i o ho hpi b hb=>⟨(hs.own b ⟨i,by simp [ho],hb⟩).1,by
  rintro ⟨j,hj,hb'⟩
  rw [zk] at hj
  split at hj
  ·rename_i hpj
   have:=hs.inj i j b (by simp [ho]) hj hb hb'
   subst this
   rw [hpi] at hpj;cases hpj
  ·simp at hj⟩
 refine ⟨v,E2,r,_,rfl,⟨h',hK,rfl⟩,⟨fun i o ho=>?_,fun i j b hi hj h1' h2'=>?_,fun b hb=>?_,fun b hb=>?_,fun b hb=>?_⟩,?_,?_,hrep⟩
 ·by_cases hpi:p i=true
  ·rw [hg1 i hpi] at ho
   exact RepObj.move (hO1 i hpi).1 (hO1 i hpi).2 hX1 hgo1 (hs'.heap i o ho)
  ·have hpi':p i=false:=by simpa using hpi
   rw [hg2 i hpi'] at ho
   have:=hs.heap i o ho
   have hl:=hlt i o ho hpi'
   cases o with
   |var cs=>
    simp only [RepObj,(hO2 i hpi').1] at this ⊢
    obtain ⟨b,c,T,fz,g1,g2,g3,g4⟩:=this
    exact ⟨b,c,T,fz,g1,(hkeep b (hl b g1).1 (hl b g1).2).trans g2,Reps.step hXb hKb _ _ (fun j _=>hgo3 j) g3,g4⟩
   |tvar tt cs=>
    simp only [RepObj,(hO2 i hpi').1] at this ⊢
    obtain ⟨b,c,T,fz,g1,g2,g3,g4⟩:=this
    exact ⟨b,c,T,fz,g1,(hkeep b (hl b g1).1 (hl b g1).2).trans g2,Reps.step hXb hKb _ _ (fun j _=>hgo3 j) g3,g4⟩
   |arr k xs=>
    simp only [RepObj,(hO2 i hpi').1,(hO2 i hpi').2] at this ⊢
    rcases this with g|⟨b,c,T,fz,g1,g2,g3,g4,g5,g6⟩
    ·exact .inl g
    ·exact .inr ⟨b,c,T,fz,g1,(hkeep b (hl b g1).1 (hl b g1).2).trans g2,g3,g4,RepRows.step hXb hKb _ _ _ g5,g6⟩
   |buf tt xs=>
    simp only [RepObj,(hO2 i hpi').1,(hO2 i hpi').2] at this ⊢
    rcases this with g|⟨b,c,T,fz,g1,g2,g3,g4,g5,g6⟩
    ·exact .inl g
    ·exact .inr ⟨b,c,T,fz,g1,(hkeep b (hl b g1).1 (hl b g1).2).trans g2,g3,g4,g5,g6⟩
   |strit l q=>
    simp only [RepObj,(hO2 i hpi').1] at this ⊢
    obtain ⟨b,g1,g2⟩:=this
    exact ⟨b,g1,(hkeep b (hl b g1).1 (hl b g1).2).trans g2⟩
   |omap es=>
    simp only [RepObj,(hO2 i hpi').1] at this ⊢
    obtain ⟨b,m,cl,g1,g2,g3⟩:=this
    exact ⟨b,m,cl,g1,(hkeep b (hl b g1).1 (hl b g1).2).trans g2,g3⟩
 ·have key:∀i j,p i=true→p j=false→(hget (h'++hsel (fun i=> !p i) h) i).isSome→(hget (h'++hsel (fun i=> !p i) h) j).isSome→E2.O i=some b→E2.O j=some b→False:=by
   intro i j hpi hpj hi hj e1 e2
   rw [hg1 i hpi] at hi
   rw [hg2 j hpj] at hj
   exact hnown' b ⟨i,hi,by rw [← (hO1 i hpi).1];exact e1⟩ ⟨j,by rw [zk];simpa [hpj] using hj,by rw [← (hO2 j hpj).1];exact e2⟩
  by_cases hpi:p i=true
  ·by_cases hpj:p j=true
   ·rw [hg1 i hpi] at hi
    rw [hg1 j hpj] at hj
    exact hs'.inj i j b hi hj (by rw [← (hO1 i hpi).1];exact h1') (by rw [← (hO1 j hpj).1];exact h2')
   ·exact (key i j hpi (by simpa using hpj) hi hj h1' h2').elim
  ·have hpi':p i=false:=by simpa using hpi
   by_cases hpj:p j=true
   ·exact (key j i hpj hpi' hj hi h2' h1').elim
   ·have hpj':p j=false:=by simpa using hpj
    rw [hg2 i hpi'] at hi
    rw [hg2 j hpj'] at hj
    exact hs.inj i j b hi hj (by rw [← (hO2 i hpi').1];exact h1') (by rw [← (hO2 j hpj').1];exact h2')
 ·rw [hM2,hN2]
  rcases hown2 b hb with ho|ho
  ·have:=hs'.own b ho
   rw [hev.m,hev.n] at this
   exact ⟨this.1,this.2.1,fun hn=>this.2.2 (.inl hn)⟩
  ·have:=hs.own b (zB ho)
   exact ⟨Nat.lt_of_lt_of_le this.1 hev.size,this.2⟩
 ·rw [hM2] at hb;exact Nat.lt_of_lt_of_le (hs.mlt b hb) hev.size
 ·rw [hN2] at hb;exact Nat.lt_of_lt_of_le (hs.nlt b hb) hev.size
 ·exact Rep.step (fun b _=>hX1 b) (fun _ _ _=>rfl) r v (fun j _=>hgo1 j) hr'
 ·refine ⟨hev.os,hev.tape,hev.output,hev.size,fun b hb ho=>hkeep b hb (fun h=>ho (zB h)),fun b hb=>?_,hM2,hN2,fun i hi hl=>⟨?_,hgo3 i⟩⟩
  ·rcases hown2 b hb with ho|ho
   ·exact (hev.own b ho).imp zB id
   ·exact .inl (zB ho)
  ·by_cases hpi:p i=true
   ·rw [hg1 i hpi] at hl
    have:=(hev.go i (by omega) hl).1
    rw [zk,if_pos hpi] at this
    exact this
   ·rw [hg2 i (by simpa using hpi)] at hl
    exact hl
theorem ACall.whole {f:FuncId} {args:List AV} {fl fl':Nat} {K:AV→AHeap→Prop} (hc:ACall P f fl args h K) (hfl:∀i,(hget h i).isSome→i<fl) (hle:fl'≤fl) (hk:∀r h',K r h'→∀i,(hget h i).isSome→(hget h' i).isSome):ACallAt P fl' f args h K:=by
 refine ⟨hc.1,fun E w vs hs hr=>(hc.2 E w vs hs hr).mono ?_⟩
 rintro e w' ⟨v,E',r,h',h1,h2,h3,h4,h5⟩
 refine ⟨v,E',r,h',h1,h2,h3,h4,⟨h5.os,h5.tape,h5.output,h5.size,h5.keep,h5.own,h5.m,h5.n,fun i hi hs'=>h5.go i (by omega) hs'⟩,fun x y hxy=>?_⟩
 refine Rep.step (fun b hb hx=>?_) (fun b hb hx=>h5.keep b hb (fun ho=>hx (.inl ho))) x y (fun j _=>?_) hxy
 ·rcases hx with hx|hx|hx
  ·exact (h5.own b hx).elim .inl (fun h=>by omega)
  ·exact .inr (.inl (by rwa [h5.m] at hx))
  ·exact .inr (.inr (by rwa [h5.n] at hx))
 ·by_cases hj:(hget h j).isSome
  ·exact (h5.go j (hfl j hj) (hk _ _ h2 j hj)).2
  ·unfold GoesOn
   split
   ·rename_i cs hh;exact (hj (by simp [hh])).elim
   ·rename_i k xs hh;exact (hj (by simp [hh])).elim
   ·rename_i l p hh;exact (hj (by simp [hh])).elim
   ·rename_i es hh;exact (hj (by simp [hh])).elim
   ·rename_i tt cs hh;exact (hj (by simp [hh])).elim
   ·rename_i tt cs hh;exact (hj (by simp [hh])).elim
   ·trivial
attribute [go_sem] hsel
end
open Go
mutual
def AV.tr (f:AV→AV):AV→AV
 | .agg cs=> .agg (AV.trL f cs)
 | .tup cs=> .tup (AV.trL f cs)
 | .dp cs=> .dp (AV.trL f cs)
 | .fn g fs cs=> .fn g (AV.trL f fs) (AV.trL f cs)
 | .asl k rows=> .asl k (AV.trR f rows)
 | .iface t v=> .iface t (v.tr f)
 | .amap ks vs=> .amap ks (AV.trL f vs)
 | .d x=> .d x
 | .nils k=> .nils k
 | .nilfn=> .nilfn
 | .any=> .any
 | .nilmap=> .nilmap
 | .raw v=> .raw v
 | .vp j o=>f (.vp j o)
 | .tp j o=>f (.tp j o)
 | .bsl j n=>f (.bsl j n)
 | .ap j n k r o=>f (.ap j n k r o)
 | .osl j k m o l=>f (.osl j k m o l)
 | .vsl j k o l=>f (.vsl j k o l)
 | .map j=>f (.map j)
 | .itr j=>f (.itr j)
def AV.trL (f:AV→AV):List AV→List AV
 | []=> []
 |x::xs=>x.tr f::AV.trL f xs
def AV.trR (f:AV→AV):List (List AV)→List (List AV)
 | []=> []
 |x::xs=>AV.trL f x::AV.trR f xs
end
def AV.ref:AV→Option Nat
 | .vp j _| .tp j _| .bsl j _| .ap j _ _ _ _| .osl j _ _ _ _| .vsl j _ _ _| .map j| .itr j=>some j
 |_=>none
def onI (i:Nat) (g:AV→AV) (a:AV):AV:=if a.ref=some i then g a else a
theorem zpa {a:AV} {j:Nat} (h:a.ref=some j):a.ids= [j]:=by
 cases a<;>simp only [AV.ref,Option.some.injEq,reduceCtorEq] at h<;>(subst h;rfl)
def AObj.tr (f:AV→AV):AObj→AObj
 | .var cs=> .var (AV.trL f cs)
 | .tvar t cs=> .tvar t (AV.trL f cs)
 |x=>x
def htr (f:AV→AV):AHeap→AHeap
 | []=> []
 |(j,x)::r=>(j,x.tr f)::htr f r
def ttr (f:AV→AV):List (Nat×(Bool×AV))→List (Nat×(Bool×AV))
 | []=> []
 |(k,(g,v))::r=>(k,(g,v.tr f))::ttr f r
theorem zcn (f:AV→AV):∀cs:List AV,(AV.trL f cs).length=cs.length
 | []=>rfl
 |x::xs=>by simp [AV.trL,zcn f xs]
theorem zdD (f:AV→AV):∀cs:List (List AV),(AV.trR f cs).length=cs.length
 | []=>rfl
 |x::xs=>by simp [AV.trR,zdD f xs]
theorem zc2 (f:AV→AV):∀ (h:AHeap) (j:Nat),hget (htr f h) j=(hget h j).map (AObj.tr f)
  | [],j=>rfl
  | (k,x)::r,j=>by
    simp only [htr,hget]
    split
    · rfl
    · exact zc2 f r j
theorem zbB (i:Nat):∀ (h:AHeap) (j:Nat),hget (hdel h i) j=if j=i then none else hget h j
  | [],j=>by simp [hdel,hget]
  | (k,x)::r,j=>by
    simp only [hdel,hget]
    by_cases hk:k=i
    · rw [if_pos hk,zbB i r j]
      by_cases hj:j=i
      · simp [hj]
      · rw [if_neg hj,if_neg hj,if_neg (by rintro rfl;exact hj hk)]
    · rw [if_neg hk]
      simp only [hget]
      by_cases hkj:k=j
      · subst hkj;simp [hk]
      · rw [if_neg hkj,if_neg hkj];exact zbB i r j
theorem zoG (f:AV→AV):∀ (t:List (Nat×(Bool×AV))) (k:Nat),lk (ttr f t) k=(lk t k).map fun q=>(q.1,q.2.tr f)
  | [],k=>by simp [ttr,lk]
  | (j,(g,v))::r,k=>by
    simp only [ttr,lk]
    by_cases e:j=k
    · simp [e]
    · simp only [e,if_false];exact zoG f r k
structure Turn (w:World) (E:Env) (h h':AHeap) (i:Nat) (g:AV→AV):Prop where
 oth:∀j,j≠i→hget h' j=(hget h j).map (AObj.tr (onI i g))
 sub:(hget h' i).isSome→(hget h i).isSome
 leaf:∀a v,a.ref=some i→Rep w E h a v→Rep w E h' (g a) v
 obj:∀o,hget h' i=some o→RepObj w E h' i o
section
variable {w : World} {E : Env} {h h' : AHeap} {i : Nat} {g : AV → AV}
theorem zbC (oth:∀j,j≠i→hget h' j=(hget h j).map (AObj.tr (onI i g))) (sub:(hget h' i).isSome→(hget h i).isSome) {j:Nat} (hj:(hget h' j).isSome):(hget h j).isSome:=by
 by_cases e:j=i
 ·subst e;exact sub hj
 ·rw [oth j e] at hj
  simpa using hj
theorem zb5 (oth:∀j,j≠i→hget h' j=(hget h j).map (AObj.tr (onI i g))) (sub:(hget h' i).isSome→(hget h i).isSome) {b:Nat} (ho:Xs E h' b):Xs E h b:=ho.imp (fun ⟨j,hj,hb⟩=>⟨j,zbC oth sub hj,hb⟩) id
theorem zew (oth:∀j,j≠i→hget h' j=(hget h j).map (AObj.tr (onI i g))) (j:Nat) (hj:j≠i):GoesOn E h E h' j:=by
 unfold GoesOn
 rw [oth j hj]
 cases e:hget h j with
 |none=>trivial
 |some x=>cases x<;>simp [AObj.tr,zcn]
theorem Turn.own (T:Turn w E h h' i g) {b:Nat} (ho:Own E h' b):Own E h b:=ho.imp fun _ ⟨hj,hb⟩=>⟨zbC T.oth T.sub hj,hb⟩
theorem Turn.ref (T:Turn w E h h' i g) {a:AV} {v:Value} {j:Nat} (ha:a.ref=some j) (hr:Rep w E h a v):Rep w E h' (onI i g a) v:=by
 unfold onI
 split
 ·rename_i e;exact T.leaf a v e hr
 ·rename_i e
  refine Rep.step (fun _ _=>zb5 T.oth T.sub) (fun _ _ _=>rfl) a v (fun l hl=>?_) hr
  rw [zpa ha,List.mem_singleton] at hl
  subst hl
  exact zew T.oth _ (fun e'=>e (by rw [ha,e']))
mutual
theorem Turn.rep (T:Turn w E h h' i g):∀ (a:AV) (v:Value),Rep w E h a v→Rep w E h' (a.tr (onI i g)) v
 | .vp ..,v,hr| .tp ..,v,hr| .bsl ..,v,hr| .ap ..,v,hr| .osl ..,v,hr| .vsl ..,v,hr| .map ..,v,hr| .itr ..,v,hr=>T.ref rfl hr
 | .agg cs,v,hr=>by
  simp only [AV.tr,Rep] at hr ⊢
  obtain ⟨vs,h1,h2⟩:=hr
  exact ⟨vs,h1,T.reps cs _ h2⟩
 | .tup cs,v,hr=>by
  simp only [AV.tr,Rep] at hr ⊢
  obtain ⟨vs,h1,h2⟩:=hr
  exact ⟨vs,h1,T.reps cs _ h2⟩
 | .dp cs,v,hr=>by
  simp only [AV.tr,Rep] at hr ⊢
  obtain ⟨a,c,ty,fz,h1,h2,h3,h4,h5⟩:=hr
  exact ⟨a,c,ty,fz,h1,h2,fun hx=>h3 (zb5 T.oth T.sub hx),h4,by rw [zcn];exact T.reps cs _ h5⟩
 | .fn f fs cs,v,hr=>by
  simp only [AV.tr,Rep] at hr ⊢
  obtain ⟨a,b,h1,h2,h3⟩:=hr
  exact ⟨a,b,h1,T.reps fs _ h2,T.reps cs _ h3⟩
 | .asl k rows,v,hr=>by
  simp only [AV.tr,Rep] at hr ⊢
  obtain ⟨a,cap,c,ty,fz,h1,h2,h3,h4,h5,h6⟩:=hr
  exact ⟨a,cap,c,ty,fz,by rw [zdD];exact h1,h2,by rw [zdD];exact h3,fun hx=>h4 (zb5 T.oth T.sub hx),h5,T.rows k rows _ h6⟩
 | .iface t x,v,hr=>by
  simp only [AV.tr,Rep] at hr ⊢
  obtain ⟨y,h1,h2⟩:=hr
  exact ⟨y,h1,T.rep x y h2⟩
 | .amap ks vs,v,hr=>by
  simp only [AV.tr,Rep] at hr ⊢
  obtain ⟨b,mes,cl,g1,g2,g3,g4,g5⟩:=hr
  exact ⟨b,mes,cl,g1,fun hx=>g2 (zb5 T.oth T.sub hx),g3,g4,T.reps vs _ g5⟩
 | .d x,v,hr=>by
  simp only [AV.tr,Rep] at hr ⊢
  exact RepD.step (fun _ _=>zb5 T.oth T.sub) (fun _ _ _=>rfl) x v hr
 | .nils _,v,hr| .nilfn,v,hr| .nilmap,v,hr| .raw _,v,hr=>by simpa only [AV.tr,Rep] using hr
 | .any,v,hr=>by simp only [AV.tr,Rep]
theorem Turn.reps (T:Turn w E h h' i g):∀ (aZ:List AV) (vs:List Value),Reps w E h aZ vs→Reps w E h' (AV.trL (onI i g) aZ) vs
 | [],vs,hr=>by simpa only [AV.trL,Reps] using hr
 |x::xs,vs,hr=>by
  simp only [AV.trL,Reps] at hr ⊢
  obtain ⟨v,r,h1,h2,h3⟩:=hr
  exact ⟨v,r,h1,T.rep x v h2,T.reps xs r h3⟩
theorem Turn.rows (T:Turn w E h h' i g) (k:Nat):∀ (aZ:List (List AV)) (vs:List Value),RepARows w E h k aZ vs→RepARows w E h' k (AV.trR (onI i g) aZ) vs
 | [],vs,hr=>by simp only [AV.trR,RepARows]
 |x::xs,vs,hr=>by
  simp only [AV.trR,RepARows] at hr ⊢
  exact ⟨by rw [zcn];exact hr.1,T.reps x _ hr.2.1,T.rows k xs _ hr.2.2⟩
end
theorem Turn.sat (T:Turn w E h h' i g) (hs:SatH E h w):SatH E h' w where
 heap:=fun j x hx=>by
  by_cases e:j=i
  ·subst e;exact T.obj x hx
  ·rw [T.oth j e] at hx
   obtain ⟨y,hy,rfl⟩:=Option.map_eq_some_iff.1 hx
   have:=hs.heap j y hy
   cases y with
   |var cs=>
    simp only [AObj.tr,RepObj] at this ⊢
    obtain ⟨b,c,ty,fz,g1,g2,g3,g4⟩:=this
    exact ⟨b,c,ty,fz,g1,g2,T.reps _ _ g3,g4⟩
   |tvar tt cs=>
    simp only [AObj.tr,RepObj] at this ⊢
    obtain ⟨b,c,ty,fz,g1,g2,g3,g4⟩:=this
    exact ⟨b,c,ty,fz,g1,g2,T.reps _ _ g3,g4⟩
   |arr k xs=>
    simp only [AObj.tr,RepObj] at this ⊢
    rcases this with g|⟨b,c,ty,fz,g1,g2,g3,g4,g5,g6⟩
    ·exact .inl g
    ·exact .inr ⟨b,c,ty,fz,g1,g2,g3,g4,RepRows.step (fun _ _=>zb5 T.oth T.sub) (fun _ _ _=>rfl) _ _ _ g5,g6⟩
   |buf tt xs=>
    simp only [AObj.tr,RepObj] at this ⊢
    exact this
   |strit l q=>exact this
   |omap es=>exact this
 inj:=fun a b c ha hb=>hs.inj a b c (zbC T.oth T.sub ha) (zbC T.oth T.sub hb)
 own:=fun b hb=>hs.own b (T.own hb)
 mlt:=hs.mlt
 nlt:=hs.nlt
def AS.tr (s:AS) (i:Nat) (g:AV→AV) (h':AHeap):AS:= { t:=ttr (onI i g) s.t,h:=h',g:=s.g }
theorem zlw {cx:Cx} {s:AS} {a:Act} (hs:Sat cx E s a w) (T:Turn w E s.h h' i g) (hi:cx.fl≤i∨hget h' i=none):Sat cx E (s.tr i g h') a w∧Evo cx.fl E s.h w E h' w:=by
 refine ⟨{ slots:=fun k gg v hk=>?_,nt:=hs.nt,hp:=T.sat hs.hp,base:=hs.base,marks:=hs.marks,ghost:=?_ },rfl,rfl,rfl,Nat.le_refl _,fun _ _ _ _=>rfl,fun b hb=> .inl (T.own hb),fun _ h=>h,fun _ h=> .inl h,rfl,fun j hlt hj=>⟨zbC T.oth T.sub hj,zew T.oth j (fun e=>?_)⟩⟩
 ·have hk':lk (ttr (onI i g) s.t) k=some (gg,v):=hk
  rw [zoG] at hk'
  obtain ⟨q,hq,e⟩:=Option.map_eq_some_iff.1 hk'
  obtain ⟨g',v'⟩:=q
  simp only [Prod.mk.injEq] at e
  obtain ⟨rfl,rfl⟩:=e
  obtain ⟨x,h1,h2,h3⟩:=hs.slots k g' v' hq
  exact ⟨x,h1,fun e=>T.rep v' x (h2 e),h3⟩
 ·exact cx.stab _ _ _ _ _ w _ (fun _ _ _=>rfl) (fun _ hb=> .inl (hb.imp T.own id)) (fun b hb=>hb.elim (fun h=>(hs.hp.own b (T.own h)).1) hs.marks.lt) (Nat.le_refl _) rfl rfl rfl hs.ghost
 ·rcases hi with hi|hi
  ·omega
  ·rw [e,hi] at hj;cases hj
theorem zpb {cx:Cx} {c:Code} {Q:Exit→AS→Prop} {s:AS} (i:Nat) (g:AV→AV) (hi:cx.fl≤i∨hget h' i=none) (hT:∀E w,SatH E s.h w→Turn w E s.h h' i g) (h:AW cx c Q (s.tr i g h')):AW cx c Q s:=fun E a w hs=>by
 obtain ⟨h1,h2⟩:=zlw hs (hT E w hs.hp) hi
 exact wpIn_mono (h E a w h1) (fun _ _ _ hr=>hr.trans h2)
def AV.frzd (i:Nat) (o:AObj):AV→AV
 | .osl _ k m off len=>(match o with
  | .arr k' xs=>if k=k'∧m=xs.length∧off+len≤m then .d (.sl k ((xs.drop off).take len)) else .any
  |_=> .any)
 | .vp _ off=>(match o with
  | .var cs=>if ((AV.idsL cs).all fun l=>l !=i)=true then .dp (cs.drop off) else .any
  |_=> .any)
 | .vsl _ k off len=>(match o with
  | .arr k' xs=>if k=k'∧off=0∧len=xs.length then .d (.sl k xs) else .any
  |_=> .any)
 |_=> .any
theorem zg8:∀ {cs:List AV} {n l:Nat},l∈AV.idsL (cs.drop n)→l∈AV.idsL cs
 | [],n,l,h=>by simpa using h
 |x::xs,0,l,h=>h
 |x::xs,n+1,l,h=>by
  simp only [AV.idsL,List.mem_append]
  exact .inr (zg8 h)
theorem zdT {X:Nat→Prop} {k:Nat} :∀ {rows:List (List D)} {vs:List Value},(∀r∈rows,r.length=k)→RepDs w X rows.flatten (vs.take (rows.length*k))→RepRows w X k rows vs
 | [],vs,_,_=>by simp only [RepRows]
 | r::rs,vs,hk,hr=>by
  have h1:=hk r List.mem_cons_self
  simp only [List.flatten_cons,List.length_cons] at hr
  simp only [RepRows]
  have e:(vs.take ((rs.length+1)*k)).take k=vs.take k:=by rw [List.take_take,Nat.min_eq_left (by rw [Nat.add_mul];omega)]
  have e2:(vs.take ((rs.length+1)*k)).drop k=(vs.drop k).take (rs.length*k):=by rw [List.drop_take,Nat.add_mul,Nat.one_mul,Nat.add_sub_cancel]
  have h2:=Reps.map_d (h:= []) (E:=bare X) |>.2 (RepDs.step (X':=Xs (bare X) []) (fun b _ hx=>by
   rcases hx with ⟨i,hi,_⟩|hx|hx
   ·simp [hget] at hi
   ·exact hx.elim
   ·exact hx) (fun _ _ _=>rfl) _ _ hr)
  rw [List.map_append] at h2
  have h3:=h2.take k
  have h4:=h2.drop k
  rw [List.take_append_of_le_length (by simp [h1]),List.take_of_length_le (by simp [h1]),e] at h3
  rw [List.drop_append_of_le_length (by simp [h1]),List.drop_of_length_le (by simp [h1]),List.nil_append,e2] at h4
  have hX:∀b,b<w.heap.size→X b→Xs (bare X) [] b:=fun b _ hx=> .inr (.inr hx)
  exact ⟨h1,RepDs.step hX (fun _ _ _=>rfl) _ _ (Reps.map_d.1 h3),zdT (fun r' hr'=>hk r' (List.mem_cons_of_mem _ hr')) (RepDs.step hX (fun _ _ _=>rfl) _ _ (Reps.map_d.1 h4))⟩
theorem zlx (hs:SatH E h w) {o o':AObj} (hi:hget h i=some o) (hv:o'=o∨∃k rows pad,o= .var (rows.flatten.map AV.d++pad)∧o'= .arr k rows∧∀r∈rows,r.length=k):Turn w E h (htr (onI i (AV.frzd i o')) (hdel h i)) i (AV.frzd i o'):=by
 have oth:∀j,j≠i→hget (htr (onI i (AV.frzd i o')) (hdel h i)) j=(hget h j).map (AObj.tr (onI i (AV.frzd i o'))):=fun j hj=>by rw [zc2,zbB,if_neg hj]
 have hn:hget (htr (onI i (AV.frzd i o')) (hdel h i)) i=none:=by rw [zc2,zbB,if_pos rfl];rfl
 have sub:(hget (htr (onI i (AV.frzd i o')) (hdel h i)) i).isSome→(hget h i).isSome:=fun e=>by rw [hn] at e;cases e
 have hX:∀b,b<w.heap.size→Xs E (htr (onI i (AV.frzd i o')) (hdel h i)) b→Xs E h b:=fun _ _=>zb5 oth sub
 have free:∀ {b:Nat},E.O i=some b→¬Xs E (htr (onI i (AV.frzd i o')) (hdel h i)) b:=fun {b} hb=>by
  have:=hs.own b ⟨i,by simp [hi],hb⟩
  rintro (⟨j,hj,hb'⟩|hx|hx)
  ·by_cases e:j=i
   ·rw [e,hn] at hj;cases hj
   ·exact e (hs.inj j i b (zbC oth sub hj) (by simp [hi]) hb' hb)
  ·exact this.2.1 hx
  ·exact this.2.2 hx
 refine ⟨oth,sub,fun a v ha hr=>?_,fun o ho=>by rw [hn] at ho;cases ho⟩
 have hob:=hs.heap i _ hi
 cases a<;>simp only [AV.ref,Option.some.injEq,reduceCtorEq] at ha<;>subst ha<;>simp only [AV.frzd,Rep]
 case osl j k m off len=>
  split
  ·rename_i k' xs
   split
   ·rename_i hc
    obtain ⟨rfl,rfl,hle⟩:=hc
    simp only [Rep,RepD] at hr ⊢
    obtain ⟨_,xs',h1,_,h3,h4⟩:=hr
    rw [hi] at h1;cases h1
    cases hv.resolve_right (by rintro ⟨_,_,_,e,_⟩;cases e)
    have hlen:((xs.drop off).take len).length=len:=by simp;omega
    simp only [RepObj] at hob
    rcases h4 rfl with ⟨⟨g1,g10⟩,rfl⟩|⟨b,g1,rfl⟩|⟨g1,rfl,a,cap,rfl⟩
    ·obtain rfl:xs= []:=List.length_eq_zero_iff.1 g10
     exact .inl ⟨by simp,none,0,rfl⟩
    ·rcases hob with ⟨q1,_⟩|⟨b',c,T,fz,q1,q2,q3,q4,q5,_⟩
     ·rw [g1] at q1;cases q1
     ·rw [g1] at q1;cases q1
      exact .inr ⟨⟨b,off*k,none⟩,E.C j - off,c,T,fz,by rw [hlen],rfl,by rw [hlen];omega,free g1,q2,RepRows.step hX (fun _ _ _=>rfl) _ _ _ ((RepRows.drop q5 off).take len)⟩
    ·exact .inl ⟨by simp,a,cap,rfl⟩
   ·simp only [Rep]
  ·simp only [Rep]
 case vp j off=>
  split
  ·rename_i cs
   split
   ·rename_i hc
    simp only [Rep] at hr ⊢
    obtain ⟨b,cs',g1,g2,rfl⟩:=hr
    rw [hi] at g1;cases g1
    cases hv.resolve_right (by rintro ⟨_,_,_,_,e,_⟩;cases e)
    simp only [RepObj] at hob
    obtain ⟨b',c,T,fz,q1,q2,q3,q4⟩:=hob
    rw [g2] at q1;cases q1
    have h5:=Reps.drop q3 off
    have hl:=Reps.length h5
    refine ⟨⟨b,off,none⟩,c,T,fz,rfl,rfl,free g2,q2,?_⟩
    rw [List.take_of_length_le (Nat.le_of_eq hl)]
    exact Reps.step hX (fun _ _ _=>rfl) _ _ (fun l hl=>zew oth _ (by
     have:=List.all_eq_true.1 hc l (zg8 hl)
     simpa using this)) h5
   ·simp only [Rep]
  ·simp only [Rep]
 case vsl j k off len=>
  split
  ·rename_i k' xs
   split
   ·rename_i hc
    obtain ⟨rfl,rfl,rfl⟩:=hc
    simp only [Rep,RepD] at hr ⊢
    obtain ⟨b,cs',g1,g2,g3,cap,g4,rfl⟩:=hr
    rw [hi] at g1;cases g1
    rcases hv with hv|⟨_,_,pad,hv,hv',hk⟩
    ·cases hv
    cases hv
    cases hv'
    simp only [RepObj] at hob
    obtain ⟨b',c,T,fz,q1,q2,q3,q4⟩:=hob
    rw [g2] at q1;cases q1
    refine .inr ⟨⟨b,0,none⟩,cap,c,T,fz,rfl,rfl,g4,free g2,q2,RepRows.step hX (fun _ _ _=>rfl) _ _ _ (zdT hk ?_)⟩
    have hfl:∀ {rows:List (List D)},(∀r∈rows,r.length=k)→rows.flatten.length=rows.length*k:=fun {rows} =>by
     induction rows with
     |nil=>simp
     |cons r rs ih=>
      intro hk
      rw [List.flatten_cons,List.length_append,ih (fun r' hr'=>hk r' (List.mem_cons_of_mem _ hr')),hk r List.mem_cons_self,List.length_cons,Nat.add_mul]
      omega
    have h5:=q3.take (xs.length*k)
    rw [List.take_append_of_le_length (by rw [List.length_map,hfl hk];exact Nat.le_refl _),List.take_of_length_le (by rw [List.length_map,hfl hk];exact Nat.le_refl _)] at h5
    exact Reps.map_d.1 (by simpa using h5)
   ·simp only [Rep]
  ·simp only [Rep]
end
def AS.fz (s:AS) (i:Nat) (o:AObj):AS:=s.tr i (AV.frzd i o) (htr (onI i (AV.frzd i o)) (hdel s.h i))
section
variable {cx : Cx} {c : Code} {Q : Exit → AS → Prop} {s : AS}
theorem zg9 {f:AV→AV} {h:AHeap} {i:Nat} :hget (htr f (hdel h i)) i=none:=by rw [zc2,zbB,if_pos rfl];rfl
theorem zp9 {E:Env} {a:Act} {w:World} {i:Nat} {o:AObj} (hs:Sat cx E s a w) (hi:hget s.h i=some o):Sat cx E (s.fz i o) a w∧Evo cx.fl E s.h w E (s.fz i o).h w:=zlw hs (zlx hs.hp hi (.inl rfl)) (.inr zg9)
theorem zaW (i:Nat) {o:AObj} (hi:hget s.h i=some o) (h:AW cx c Q (s.fz i o)):AW cx c Q s:=zpb i _ (.inr zg9) (fun _ _ hs=>zlx hs hi (.inl rfl)) h
theorem zge {cx:Cx} {c:Code} {Q:Exit→AS→Prop} {s:AS} (t:Nat) (k:Nat) (hk:lk s.t t=some (true,.nils k)) (h:AW cx c Q { s with t:=(t,(true,.osl (fresh cx.fl s.h) k 0 0 0))::s.t,h:=(fresh cx.fl s.h,.arr k [])::s.h }):AW cx c Q s:=fun E a w hs=>by
  have cc:Chg E s.h w (E.set (fresh cx.fl s.h) none 0) ((fresh cx.fl s.h,.arr k [])::s.h) w (fresh cx.fl s.h):=
    { os:=rfl,tape:=rfl,output:=rfl,size:=Nat.le_refl _,envO:=fun j e=>by simp [Env.set,e],envC:=fun j e=>by simp [Env.set,e],M:=rfl,N:=rfl,hh:=fun j e=>by simp [hget,Ne.symm e],
      gi:=by simp [GoesOn,zai]
      blk:=fun b hb _=>rfl
      new:=fun b _ hb=>by simp [Env.set] at hb }
  have hs1:=cc.sat (t:=s.t) (g:=s.g) hs (fun o ho=>by
    simp [hget] at ho
    subst ho
    simp only [RepObj]
    exact .inl ⟨by simp [Env.set],.inl trivial⟩)
  obtain ⟨x,h1,h2,h3⟩:=hs.slots t true _ hk
  have hx:x= .slice none 0 0:=by have:=h2 rfl;simpa only [Rep] using this
  subst hx
  refine wpIn_mono (h _ a w ⟨fun j g v hj=>?_,hs1.nt,hs1.hp,hs1.base,hs1.marks,hs1.ghost⟩) (fun _ _ _ hr=>hr.trans (cc.evo (.inr (zO _ _))))
  simp only [lk] at hj
  split at hj
  · rename_i e;subst e
    simp only [Option.some.injEq,Prod.mk.injEq] at hj
    obtain ⟨rfl,rfl⟩:=hj
    refine ⟨_,h1,fun _=>?_,fun e=>by cases e⟩
    simp only [Rep]
    exact ⟨⟨_,_,_,rfl⟩,[],by simp [hget],by simp,by simp,fun _=> .inl ⟨by simp [Env.set],trivial⟩⟩
  · exact hs1.slots j g v hj
theorem zc6 {cx:Cx} {c:Code} {Q:Exit→AS→Prop} {s:AS} (i o k:Nat) {cs:List AV} (hi:hget s.h i=some (.var cs)) (ho:cs[o]?=some (.nils k))
    (h:AW cx c Q { s with h:=(fresh cx.fl s.h,.arr k [])::hset s.h i (.var (cs.set o (.osl (fresh cx.fl s.h) k 0 0 0))) }):AW cx c Q s:=fun E a w hs=>by
  have hne:fresh cx.fl s.h≠i:=fun e=>by
    have:=zai cx.fl s.h
    rw [e,hi] at this;cases this
  have cc:Chg E s.h w (E.set (fresh cx.fl s.h) none 0) ((fresh cx.fl s.h,.arr k [])::s.h) w (fresh cx.fl s.h):=
    { os:=rfl,tape:=rfl,output:=rfl,size:=Nat.le_refl _,envO:=fun j e=>by simp [Env.set,e],envC:=fun j e=>by simp [Env.set,e],M:=rfl,N:=rfl,hh:=fun j e=>by simp [hget,Ne.symm e],
      gi:=by simp [GoesOn,zai]
      blk:=fun b hb _=>rfl
      new:=fun b _ hb=>by simp [Env.set] at hb }
  have hs1:=cc.sat (t:=s.t) (g:=s.g) hs (fun o ho=>by
    simp [hget] at ho
    subst ho
    simp only [RepObj]
    exact .inl ⟨by simp [Env.set],.inl trivial⟩)
  have hi1:hget ((fresh cx.fl s.h,.arr k [])::s.h) i=some (.var cs):=by simp [hget,hne,hi]
  have e1:(fresh cx.fl s.h,AObj.arr k [])::hset s.h i (.var (cs.set o (.osl (fresh cx.fl s.h) k 0 0 0)))=hset ((fresh cx.fl s.h,.arr k [])::s.h) i (.var (cs.set o (.osl (fresh cx.fl s.h) k 0 0 0))):=by
    simp [hset,hne]
  obtain ⟨E1,hE1⟩:∃E1,E1=E.set (fresh cx.fl s.h) none 0:=⟨_,rfl⟩
  rw [← hE1] at hs1 cc
  obtain ⟨b,c',T,fz,g1,g2,g3,g4⟩:=hs1.hp.var hi1
  have ch:=zlj (w:=w) hs1.hp hi1 (cs':=cs.set o (.osl (fresh cx.fl s.h) k 0 0 0)) (by simp) g1 (.cells c' T fz)
  have hrow:World.row w b (.cells c' T fz)=w:=by
    obtain ⟨hlt,hb'⟩:=Array.getElem?_eq_some_iff.1 g2
    unfold World.row
    rw [← hb',Array.setIfInBounds_def,dif_pos hlt,Array.set_getElem_self]
  rw [hrow] at ch
  have hs2:=ch.sat (t:=s.t) (g:=s.g) hs1 (fun ob hob=>by
    rw [ze hi1] at hob
    cases hob
    simp only [RepObj]
    refine ⟨b,c',T,fz,g1,g2,?_,g4⟩
    have h3:=ch.reps g3
    obtain ⟨v,hv,hr⟩:=Reps.get g3 ho
    simp only [Rep] at hr
    have hset:=h3.set (i:=o) (a:= .osl (fresh cx.fl s.h) k 0 0 0) (v:= .slice none 0 0) (by
      simp only [Rep]
      refine ⟨⟨_,_,_,rfl⟩,[],?_,by simp,by simp,fun _=> .inl ⟨by rw [hE1];simp [Env.set],trivial⟩⟩
      rw [zr (by simpa using hne)]
      simp [hget])
    subst hr
    have:c'.toList.set o (.slice none 0 0)=c'.toList:=by
      apply List.ext_getElem?
      intro j
      rw [List.getElem?_set]
      split
      · rename_i e;subst e
        split
        · exact hv.symm
        · rename_i hlt
          rw [List.getElem?_eq_none (by omega)]
      · rfl
    rw [this] at hset
    exact hset)
  rw [← e1] at hs2 ch
  refine wpIn_mono (h E1 a w hs2) (fun _ _ _ hr=>hr.trans ((cc.evo (.inr (zO _ _))).trans (ch.evo (.inl (by rw [hi1];rfl)))))
theorem zea {p:Nat→Bool} :∀ {h:AHeap},(∀q∈h,p q.1=true)→hsel p h=h
  | [],_=>rfl
  | (k,o)::r,hh=>by
    simp only [hsel]
    rw [if_pos (hh (k,o) (by simp)),zea (fun q hq=>hh q (by simp [hq]))]
end
attribute [go_sem] AS.fz AS.tr ttr htr hdel AObj.tr AV.tr AV.trL AV.trR AV.ref onI AV.frzd List.all_nil List.all_cons List.all_append
open Go
structure Yo (P:Program) (items:List (List AV)) where
 yl:Nat
 G:Option (List (List AV))→(Nat→Prop)→(Nat→Prop)→(Nat→Prop)→World→Prop
 stab:∀g M N A A' w w',(∀b,b<w.heap.size→¬A b→w'.heap[b]?=w.heap[b]?)→(∀b,A' b→A b∨w.heap.size≤b)→(∀b,A' b→b<w'.heap.size)→w.heap.size≤w'.heap.size→w'.tape=w.tape→w'.os=w.os→w'.output=w.output→G g M N A w→G g M N A' w'
 yok:∀xs x X M N A w (vs:Array Value),G (some xs) M N A w→(∀b,M b∨N b∨A b→X b)→Reps w (bare X) [] x vs.toList→(xs++ [x])<+:items→
  zfQ P yl vs w (fun e w'=>∃b M',e= .returned (.bool b)∧w'.os=w.os∧w'.tape=w.tape∧w'.output=w.output∧w.heap.size≤w'.heap.size∧(∀k,k<w.heap.size→¬M k→w'.heap[k]?=w.heap[k]?)∧
   (∀k,M k→M' k)∧(∀k,M' k→M k∨(w.heap.size≤k∧k<w'.heap.size))∧G (if b=true then some (xs++ [x]) else none) M' N A w')
def cxY (P:Program) {items:List (List AV)} (base nt fl:Nat) (y:Yo P items) (rq:Bool:=false):Cx:= { P:=P,ro:=none,base:=base,nt:=nt,fl:=fl,rq:=rq,G:=y.G,stab:=y.stab,yl:=y.yl,items:=items,yok:=y.yok }
def AIter (P:Program) (f:FuncId) (fl:Nat) (pre caps:List AV) (h:AHeap) (items:List (List AV)) (K:Option (List (List AV))→AHeap→Prop):Prop:=
 zbj P f∧∀ (y:Yo P items) E w (us vs:Array Value),SatH E h w→Reps w E h pre us.toList→Reps w E h caps vs.toList→y.G (some []) E.M E.N (Own E h) w→
  Calls P f (us++ #[Value.func (.yield y.yl) #[] #[]]++vs) w (fun e w'=>∃v E' h' g,e= .returned v∧K g h'∧SatH E' h' w'∧Evo fl E h w E' h' w'∧y.G g E'.M E'.N (Own E' h') w')
def IterK (K:Option (List (List AV))→AHeap→Prop):Exit→AS→Prop
 | .normal,s=>K s.g s.h
 | .ret,s=>K s.g s.h
 |_,_=>False
section
variable {P : Program}
theorem zha {rq:Bool} {f:FuncId} {fn:Func} {c:Code} {nt fl:Nat} {pre caps:List AV} {h:AHeap} {items:List (List AV)} {K:Option (List (List AV))→AHeap→Prop} (hf:P.funcs[f]?=some fn) (hb:fn.body=some c) (hnt:fn.ntmps=nt) (hres:fn.results= #[]) (hn:pre.length+caps.length+1≤nt) (y:Yo P items)
  (haw:∀base,AW (cxY P base nt fl y rq) c (IterK K) { t:=zL 0 (pre++ .fn (.yield y.yl) [] []::caps),h:=h,g:=some [] }) {E:Env} {w:World} {us vs:Array Value} (hs:SatH E h w) (hp:Reps w E h pre us.toList) (hc:Reps w E h caps vs.toList) (hG:y.G (some []) E.M E.N (Own E h) w):
  Calls P f (us++ #[Value.func (.yield y.yl) #[] #[]]++vs) w (fun e w'=>∃v E' h' g,e= .returned v∧K g h'∧SatH E' h' w'∧Evo fl E h w E' h' w'∧y.G g E'.M E'.N (Own E' h') w'):=by
 refine (callsIn_wide (n:=0)).1 (callsIn_of_wp_marks hf hb trivial ?_ rfl)
 subst hnt
 have hargs:Reps w E h (pre++ .fn (.yield y.yl) [] []::caps) (us++ #[Value.func (.yield y.yl) #[] #[]]++vs).toList:=by
  simp only [Array.toList_append,List.append_assoc]
  refine hp.append ?_
  simp only [List.singleton_append,Reps]
  exact ⟨_,_,rfl,by simp [Rep,Reps],hc⟩
 have hlen:=Reps.length hargs
 have hsat:Sat (cxY P w.heap.size fn.ntmps fl y rq) E { t:=zL 0 (pre++ .fn (.yield y.yl) [] []::caps),h:=h,g:=some [] } { tmps:=(us++ #[Value.func (.yield y.yl) #[] #[]]++vs)++Array.replicate (fn.ntmps - (us++ #[Value.func (.yield y.yl) #[] #[]]++vs).size) undef,defers:= [] } w:=by
  refine ⟨fun k g v hk=>?_,?_,hs,⟨Nat.le_refl _,fun _=>rfl⟩,⟨by simp,by simp⟩,?_⟩
  ·obtain ⟨rfl,_,hv⟩:=zbl _ 0 k hk
   obtain ⟨x,hx,hrx⟩:=Reps.get hargs hv
   have hx':(us++ #[Value.func (.yield y.yl) #[] #[]]++vs)[k]?=some x:=by rw [← Array.getElem?_toList];simpa using hx
   have hk':=(Array.getElem?_eq_some_iff.1 hx').1
   exact ⟨x,by rw [Array.getElem?_append_left hk'];exact hx',fun _=>hrx,fun e=>by cases e⟩
  ·have:(us++ #[Value.func (.yield y.yl) #[] #[]]++vs).size=pre.length+(caps.length+1):=by
    have:=hlen
    rw [Array.length_toList] at this
    simpa using this
   show (_++Array.replicate _ undef).size=fn.ntmps
   rw [Array.size_append,Array.size_replicate]
   omega
  ·exact y.stab _ _ _ _ _ w _ (fun _ _ _=>rfl) (fun b hb=> .inl (hb.elim id (fun ⟨d,hd,_⟩=>by simp at hd))) (fun b hb=>hb.elim (fun h=>(hs.own b h).1) (fun ⟨d,hd,_⟩=>by simp at hd)) (Nat.le_refl _) rfl rfl rfl hG
 refine wpIn_mono (haw w.heap.size E _ w hsat) ?_
 intro e a2 w2 hr2
 have key:Reach (cxY P w.heap.size fn.ntmps fl y rq) E h w (fun s=>K s.g s.h) a2 w2→LeavesInM Fence.wide 0 P fn a2.tmps (fun e w'=>∃v E' h' g,e= .returned v∧K g h'∧SatH E' h' w'∧Evo fl E h w E' h' w'∧y.G g E'.M E'.N (Own E' h') w') a2.defers .returning w2:=by
  rintro ⟨E2,s2,hK,hs2,he2⟩
  refine zb4 a2.defers w2 hs2.marks (fun w3 sh hoth=>?_)
  have hp3:SatH E2 s2.h w3:=hs2.hp.refit sh rfl rfl (fun _ _ h=>h) (fun b hb=>(hs2.hp.own b hb).2) hs2.hp.mlt hs2.hp.nlt
  refine ⟨.tuple #[],by rw [zfy,hres];simp,_,E2,s2.h,s2.g,rfl,hK,hp3,?_,?_⟩
  ·refine ⟨sh.os.trans he2.os,sh.tape.trans he2.tape,sh.output.trans he2.output,by rw [sh.size];exact he2.size,fun b hb ho hm=>(sh.low b hb).trans (he2.keep b hb ho hm),he2.own,he2.m1,he2.m2,he2.n,he2.go⟩
  ·exact y.stab _ _ _ _ _ w2 _ (fun b _ hb=>hoth b (fun hm=>hb (.inr hm))) (fun b hb=> .inl (.inl hb)) (fun b hb=>(hp3.own b hb).1) (by rw [sh.size];exact Nat.le_refl _) sh.tape sh.os sh.output hs2.ghost
 cases e with
 |normal=>exact key hr2
 |ret=>exact key hr2
 |exit id=>obtain ⟨_,_,h,_⟩:=hr2;exact h.elim
 |goto id=>obtain ⟨_,_,h,_⟩:=hr2;exact h.elim
 |panic c=>obtain ⟨_,_,h,_⟩:=hr2;exact h.elim
 |outgrown=>obtain ⟨_,_,h,_⟩:=hr2;exact h.elim
theorem zgf {f:FuncId} {fn:Func} {c:Code} {nt fl:Nat} {pre caps:List AV} {h:AHeap} {items:List (List AV)} {K:Option (List (List AV))→AHeap→Prop} (hf:P.funcs[f]?=some fn) (hb:fn.body=some c) (hen:zbj P f) (hnt:fn.ntmps=nt) (hres:fn.results= #[]) (hn:pre.length+caps.length+1≤nt)
  (haw:∀base (y:Yo P items),AW (cxY P base nt fl y) c (IterK K) { t:=zL 0 (pre++ .fn (.yield y.yl) [] []::caps),h:=h,g:=some [] }):AIter P f fl pre caps h items K:=
 ⟨hen,fun y _ _ _ _ hs hp hc hG=>zha hf hb hnt hres hn y (fun base=>haw base y) hs hp hc hG⟩
end
def zcG (P:Program) (s:AS) (c:Call):Option (Nat×List AV×Prop):=
 match c.callee with
 | .value f=>match s.ev f with
  |(g,.fn (.yield l) [] [])=>some (l,((c.args.toList.zip (c.argTypes.toList++List.replicate c.args.size 0)).map fun p=>(s.ev p.1).2.tag P p.2),g=true∧(c.args.toList.all fun x=>(s.ev x).1)=true)
  |_=>none
 |_=>none
def aopY (cx:Cx) (tab:Tab) (G:Bool) (o:Oper) (K:AS→Prop) (s:AS):Prop:=
 match o.op with
 | .call c=>(match zcG cx.P s c with
  |some (l,args,vc)=>dstOk cx.nt o.dst∧(if G=true then vc∧l=cx.yl∧AV.idsL args= []∧(match s.g with
   |some xs=>(xs++ [args])<+:cx.items∧K ({ s with g:=some (xs++ [args]) }.put o.dst true (.d (.bool true)))∧K ({ s with g:=none }.put o.dst true (.d (.bool false)))
   |none=>False) else K (s.put o.dst false (.d (.bool false))))
  |none=>aopT cx tab G o K s)
 |_=>aopT cx tab G o K s
def aopsY (cx:Cx) (tab:Tab) (all:Array Oper):List Oper→(AS→Prop)→AS→Prop
 | [],K,s=>K s
 |o::r,K,s=>match zaa s all o.guard with
  |some G=>aopY cx tab G o (aopsY cx tab all r K) s
  |none=>False
section
variable {cx : Cx} {tab : Tab} {E : Env} {s : AS} {a : Act} {w : World}
theorem zio {ro:Option Nat} {P:Program} {l:Nat} {f:FuncId} {tmps:Array Value} {assign body:Code} {w:World} {R:Ending→World→Prop} (n:Nat) (h:RoundIn Fence.wide n P l f tmps assign body w R):RoundIn { Fence.wide with round:=ro } n P l f tmps assign body w R:=h
theorem znB {o:Oper} {c:Call} (hop:o.op= .call c) {l:Nat} {args:List AV} {vc:Prop} (hy:zcG cx.P s c=some (l,args,vc)) {K:AS→Prop} {Q:Exit→Act→World→Prop} (hs:Sat cx E s a w) (hd:dstOk cx.nt o.dst) (hvc:vc) (hl:l=cx.yl) (hids:AV.idsL args= [])
    {xs:List (List AV)} (hg:s.g=some xs) (hpre:(xs++ [args])<+:cx.items) (k1:K ({ s with g:=some (xs++ [args]) }.put o.dst true (.d (.bool true)))) (k2:K ({ s with g:=none }.put o.dst true (.d (.bool false)))):
    o.wpIn cx.F 0 cx.P a w (Reach cx E s.h w K) Q:=by
  obtain ⟨dst,op,ot,pos,after,guard⟩:=o
  dsimp only at hop hd k1 k2
  subst hop
  obtain ⟨callee,cargs,ctypes⟩:=c
  have hdst:∀k,dst=some k→k<cx.nt:=fun k e=>by rw [e] at hd;exact hd
  cases callee with
  |invoke r m=>simp [zcG] at hy
  |builtin b=>simp [zcG] at hy
  | value fo=>
    simp only [zcG] at hy
    split at hy
    case h_2=>cases hy
    case h_1 g n hef=>
      simp only [Option.some.injEq,Prod.mk.injEq] at hy
      obtain ⟨rfl,rfl,rfl⟩:=hy
      obtain ⟨hgd,hall⟩:=hvc
      subst hl
      have hf:=ev_ok hs.slots fo (by rw [hef];exact hgd)
      rw [hef] at hf
      simp only [Rep] at hf
      obtain ⟨pf,qc,hfv,hfs,hcs⟩:=hf
      have hpf:pf= #[]:=by simp only [Reps] at hfs;simpa using hfs
      have hqc:qc= #[]:=by simp only [Reps] at hcs;simpa using hcs
      subst hpf hqc
      have hargs:Reps w E s.h ((cargs.toList.zip (ctypes.toList++List.replicate cargs.size 0)).map fun p=>(s.ev p.1).2.tag cx.P p.2) (cargs.map a.eval).toList:=by
        have key:∀ (l:List Operand) (ts:List TypeId),l.length≤ts.length→(l.all fun x=>(s.ev x).1)=true→Reps w E s.h ((l.zip ts).map fun p=>(s.ev p.1).2.tag cx.P p.2) (l.map a.eval):=by
          intro l
          induction l with
          |nil=>intro ts _ _;simp [Reps]
          | cons x l ih=>
            intro ts hl ha
            cases ts with
            |nil=>simp at hl
            | cons t ts=>
              simp only [List.all_cons,Bool.and_eq_true] at ha
              simp only [List.zip_cons_cons,List.map_cons,Reps]
              exact ⟨_,_,rfl,Rep.tag (ev_ok hs.slots x ha.1),ih ts (by simpa using hl) ha.2⟩
        rw [Array.toList_map]
        exact key _ _ (by simp) hall
      obtain ⟨X,hX⟩:∃X:Nat→Prop,X=fun b=>Xs E s.h b∨zQ a.defers b:=⟨_,rfl⟩
      have hb:Reps w (bare X) [] ((cargs.toList.zip (ctypes.toList++List.replicate cargs.size 0)).map fun p=>(s.ev p.1).2.tag cx.P p.2) (cargs.map a.eval).toList:=by
        refine Reps.stepc (fun b o hc hb hx=>?_) (fun _ _ h _ _=>h) _ _ (by rw [hids];simp) hargs
        rcases hx with ⟨i,hi,_⟩|hx|hx
        · simp [hget] at hi
        · exact hx.elim
        · rw [hX] at hx
          rcases hx with hx|⟨d,hdm,hdt⟩
          · exact hx
          · obtain ⟨r,h1,h2,_⟩:=hs.marks.1 d hdm
            rw [h1] at hdt
            cases hdt
            rw [h2] at hc;cases hc;cases hb
      have hgh:=hs.ghost
      rw [hg] at hgh
      obtain ⟨fn,tmps,assign,body,hrun,hround⟩:=cx.yok xs _ X E.M E.N _ w (cargs.map a.eval) hgh (fun b hb=>by
        rw [hX]
        rcases hb with hb|hb|hb|hb
        · exact .inl (.inr (.inl hb))
        · exact .inl (.inr (.inr hb))
        · exact .inl (.inl hb)
        · exact .inr hb) hb hpre
      refine ⟨fun _ _=>trivial,?_⟩
      rw [Oper.semAt_eq _ _ _ (by simp)]
      have hexec:(execOp a.eval ⟨dst,.call ⟨.value fo,cargs,ctypes⟩,ot,pos,after,guard⟩).run cx.P w= .ok (.round cx.yl fn tmps assign body) w:=by
        simp only [execOp,resolve,hfv,Deferred.ofValue,Sem.run_bind,Sem.run_pure,Result.andThen_ok,invoke]
        have e1:(#[]:Array Value)++cargs.map a.eval=cargs.map a.eval:=by simp
        rw [e1]
        exact hrun
      rw [hexec]
      simp only [Oper.uponIn_round]
      refine ⟨(fun h=>by cases h),?_⟩
      refine (zio _ hround).mono ?_
      rintro e w' ⟨b,M',rfl,q1,q2,q3,q4,q5,q6,q7,q8⟩
      obtain ⟨E',hE'⟩:∃E':Env,E'= { E with M:=M' } :=⟨_,rfl⟩
      have hO:E'.O=E.O:=by rw [hE']
      have hC:E'.C=E.C:=by rw [hE']
      have hM:E'.M=M':=by rw [hE']
      have hN:E'.N=E.N:=by rw [hE']
      have hown:∀k,Own E' s.h k↔Own E s.h k:=fun k=>by unfold Own;rw [hO]
      have hXk:∀k,k<w.heap.size→Xs E' s.h k→Xs E s.h k:=fun k hk hx=>by
        rcases hx with hx|hx|hx
        · exact .inl ((hown k).1 hx)
        · rw [hM] at hx
          rcases q7 k hx with h|h
          · exact .inr (.inl h)
          · omega
        · exact .inr (.inr (by rwa [hN] at hx))
      have hKk:∀k,k<w.heap.size→¬Xs E s.h k→w'.heap[k]?=w.heap[k]?:=fun k hk hx=>q5 k hk (fun hm=>hx (.inr (.inl hm)))
      have hKo:∀k,Own E s.h k→w'.heap[k]?=w.heap[k]?:=fun k ho=>q5 k (hs.hp.own k ho).1 (hs.hp.own k ho).2.1
      have hgo:∀j,GoesOn E s.h E' s.h j:=fun j=>by
        unfold GoesOn
        rw [hO,hC]
        split<;>simp_all
      have hrep:∀x y,Rep w E s.h x y→Rep w' E' s.h x y:=fun x y hxy=>Rep.step hXk hKk x y (fun j _=>hgo j) hxy
      have hp':SatH E' s.h w':=by
        refine ⟨fun i ob ho=>?_,by rw [hO];exact hs.hp.inj,fun k hk=>?_,fun k hk=>?_,fun k hk=>?_⟩
        · have:=hs.hp.heap i ob ho
          have hoi:∀k,E.O i=some k→w'.heap[k]?=w.heap[k]?:=fun k hk=>hKo k ⟨i,by simp [ho],hk⟩
          cases ob with
          | var cs=>
            simp only [RepObj,hO] at this ⊢
            obtain ⟨b,c,T,fz,g1,g2,g3,g4⟩:=this
            exact ⟨b,c,T,fz,g1,(hoi b g1).trans g2,Reps.step hXk hKk _ _ (fun j _=>hgo j) g3,g4⟩
          | tvar tt cs=>
            simp only [RepObj,hO] at this ⊢
            obtain ⟨b,c,T,fz,g1,g2,g3,g4⟩:=this
            exact ⟨b,c,T,fz,g1,(hoi b g1).trans g2,Reps.step hXk hKk _ _ (fun j _=>hgo j) g3,g4⟩
          | arr k xs=>
            simp only [RepObj,hO,hC] at this ⊢
            rcases this with g|⟨b,c,T,fz,g1,g2,g3,g4,g5,g6⟩
            · exact .inl g
            · exact .inr ⟨b,c,T,fz,g1,(hoi b g1).trans g2,g3,g4,RepRows.step hXk hKk _ _ _ g5,g6⟩
          | buf tt xs=>
            simp only [RepObj,hO,hC] at this ⊢
            rcases this with g|⟨b,c,T,fz,g1,g2,g3,g4,g5,g6⟩
            · exact .inl g
            · exact .inr ⟨b,c,T,fz,g1,(hoi b g1).trans g2,g3,g4,g5,g6⟩
          | strit l q=>
            simp only [RepObj,hO] at this ⊢
            obtain ⟨b,g1,g2⟩:=this
            exact ⟨b,g1,(hoi b g1).trans g2⟩
          | omap es=>
            simp only [RepObj,hO] at this ⊢
            obtain ⟨b,m,cl,g1,g2,g3⟩:=this
            exact ⟨b,m,cl,g1,(hoi b g1).trans g2,g3⟩
        · have ho:=hs.hp.own k ((hown k).1 hk)
          refine ⟨Nat.lt_of_lt_of_le ho.1 q4,fun hm=>?_,by rw [hN];exact ho.2.2⟩
          rw [hM] at hm
          rcases q7 k hm with h|h
          · exact ho.2.1 h
          · omega
        · rw [hM] at hk
          rcases q7 k hk with h|h
          · exact Nat.lt_of_lt_of_le (hs.hp.mlt k h) q4
          · exact h.2
        · rw [hN] at hk;exact Nat.lt_of_lt_of_le (hs.hp.nlt k hk) q4
      have hev:Evo cx.fl E s.h w E' s.h w':=⟨q1,q2,q3,q4,fun k hk _ hm=>q5 k hk hm,fun k hk=> .inl ((hown k).1 hk),fun k hk=>by rw [hM];exact q6 k hk,fun k hk=>by rw [hM] at hk;exact (q7 k hk).imp id (·.1),hN,fun i _ hi=>⟨hi,hgo i⟩⟩
      have hsat:∀g',cx.G g' M' E.N (fun b=>Own E s.h b∨zQ a.defers b) w'→Sat cx E' { s with g:=g' } a w':=fun g' hG=>
        { slots:=fun k gg v hk=>by
            obtain ⟨x,h1,h2,h3⟩:=hs.slots k gg v hk
            exact ⟨x,h1,fun e=>hrep _ _ (h2 e),h3⟩
          nt:=hs.nt
          hp:=hp'
          base:=⟨Nat.le_trans hs.base.1 q4,hs.base.2⟩
          marks:=⟨fun d hd=>by
            obtain ⟨r,h1,h2,h3,h4⟩:=hs.marks.1 d hd
            have hr:=(Array.getElem?_eq_some_iff.1 h2).1
            exact ⟨r,h1,(q5 r hr h4).trans h2,h3,fun hm=>by
              rw [hM] at hm
              rcases q7 r hm with h|h
              · exact h4 h
              · omega⟩,hs.marks.2⟩
          ghost:=by
            rw [hM,hN]
            refine cx.stab _ _ _ _ _ w' _ (fun _ _ _=>rfl) (fun k hk=> .inl (hk.imp (hown k).1 id)) (fun k hk=>hk.elim (fun h=>(hp'.own k h).1) (fun h=>Nat.lt_of_lt_of_le (hs.marks.lt h) q4)) (Nat.le_refl _) rfl rfl rfl hG }
      cases b with
      | true=>
        simp only [if_true] at q8
        have:=hsat _ q8
        exact ⟨E',_,k1,this.put hdst (fun _=>by simp [Rep,RepD]) (fun e=>by cases e),by cases dst<;>exact hev⟩
      | false=>
        simp only [Bool.false_eq_true,if_false] at q8
        have:=hsat _ q8
        exact ⟨E',_,k2,this.put hdst (fun _=>by simp [Rep,RepD]) (fun e=>by cases e),by cases dst<;>exact hev⟩
theorem zly (ht:TabOk cx.P tab) {all:Array Oper} {o:Oper} {G:Bool} {K:AS→Prop} {Q:Exit→Act→World→Prop} (hs:Sat cx E s a w) (hg:zaa s all o.guard=some G) (h:aopY cx tab G o K s):
  if Region.wanted o (yielded all a.tmps) then o.wpIn cx.F 0 cx.P a w (Reach cx E s.h w K) Q else (∀f,o.about cx.P w a.eval=some f→cx.F.fn f)∧Reach cx E s.h w K (a.put o.dst undef) w:=by
 unfold aopY at h
 split at h
 ·rename_i c hop
  split at h
  ·rename_i l args vc hy
   obtain ⟨hd,h⟩:=h
   rw [zaE hs.slots hg]
   cases G with
   | true=>
    simp only [if_true] at h ⊢
    obtain ⟨h1,h2,h3,h4⟩:=h
    split at h4
    ·rename_i xs hx
     exact znB hop hy hs hd h1 h2 h3 hx h4.1 h4.2.1 h4.2.2
    ·exact h4.elim
   |false=>
    simp only [Bool.false_eq_true,if_false] at h ⊢
    exact ⟨fun _ _=>trivial,E,_,h,hs.put (fun k e=>by rw [e] at hd;exact hd) (fun e=>by cases e) (fun _=>rfl),by cases o.dst<;>exact Evo.refl _ _ _ _⟩
  ·exact zdB ht hs hg h
 ·exact zdB ht hs hg h
theorem zeb (ht:TabOk cx.P tab) {all:Array Oper} :∀ (l:List Nat) (ops:List Oper) {K:AS→Prop} {s:AS} {E:Env} {a:Act} {w:World},l.map (all[·]?)=ops.map some→Sat cx E s a w→aopsY cx tab all ops K s→
  wpOpsIn cx.F 0 cx.P all (fun e a' w'=>e= .normal∧Reach cx E s.h w K a' w') l a w
 | [],ops,K,s,E,a,w,hl,hs,h=>by
  have:ops= []:=by simpa using hl.symm
  subst this
  exact ⟨rfl,zdp hs h⟩
 |i::l,[],K,s,E,a,w,hl,hs,h=>by simp at hl
 | i::l,o::ops,K,s,E,a,w,hl,hs,h=>by
  simp only [List.map_cons,List.cons.injEq] at hl
  obtain ⟨hi,hl⟩:=hl
  simp only [aopsY] at h
  split at h
  ·rename_i G hg
   simp only [wpOpsIn,hi]
   have:=zly ht (Q:=fun _ _ _=>False) hs hg h
   split at this
   ·rename_i hw
    rw [if_pos hw]
    refine zZ this ?_
    rintro a1 w1 ⟨E1,s1,hk,hs1,he1⟩
    have ih:=zeb ht l ops hl hs1 hk
    refine zw _ ih ?_
    rintro e a2 w2 ⟨rfl,hr⟩
    exact ⟨rfl,hr.trans he1⟩
   ·rename_i hw
    rw [if_neg hw]
    refine ⟨this.1,?_⟩
    obtain ⟨E1,s1,hk,hs1,he1⟩:=this.2
    have ih:=zeb ht l ops hl hs1 hk
    refine zw _ ih ?_
    rintro e a2 w2 ⟨rfl,hr⟩
    exact ⟨rfl,hr.trans he1⟩
  ·exact h.elim
theorem zfA {id:Nat} {ops:Array Oper} {Q:Exit→AS→Prop} (tab:Tab) (ht:TabOk cx.P tab) (h:aopsY cx tab ops ops.toList (Q .normal) s):AW cx (.region id ops false) Q s:=fun E a w hs=>
 wpIn_region (zw _ (zeb ht _ _ (zbz ops) hs h) (by rintro e a' w' ⟨rfl,hr⟩;exact hr))
theorem zfc {id:Nat} {ops:Array Oper} {y:Code} {Q:Exit→AS→Prop} (tab:Tab) (ht:TabOk cx.P tab) (h:∀K,(∀s',AW cx y Q s'→K s')→aopsY cx tab ops ops.toList K s):AW cx (.seq (.region id ops false) y) Q s:=
 zbh fun K hK=>zfA tab ht (h K hK)
def keepT (h:AHeap) (t:List (Nat×(Bool×AV))):List (Nat×(Bool×AV)):=t.map fun q=>(q.1,(q.2.1,if (q.2.2.ids.all fun i=>(hget h i).isSome)=true then q.2.2 else .any))
theorem zgg {h:AHeap} :∀ (t:List (Nat×(Bool×AV))) (k:Nat),lk (keepT h t) k=(lk t k).map fun q=>(q.1,if (q.2.ids.all fun i=>(hget h i).isSome)=true then q.2 else .any)
  | [],k=>rfl
  | (j,(g,v))::r,k=>by
    have ih:=zgg (h:=h) r k
    unfold keepT at ih ⊢
    simp only [List.map_cons,lk]
    by_cases e:j=k
    · simp [e]
    · simp only [e,if_false];exact ih
theorem zpc {c:Code} {Q:Exit→AS→Prop} (p:Nat→Bool) (hin:inH (hsel p s.h) (idsH (hsel p s.h))) (h:AW cx c Q { t:=keepT (hsel p s.h) s.t,h:=hsel p s.h,g:=s.g }):AW cx c Q s:=fun E a w hs=>by
  have hcl:Closed p s.h:=fun i o ho hp j hj=>by
    have h1:hget (hsel p s.h) i=some o:=by rw [zk,if_pos hp];exact ho
    have:=zb0 hin j (zcY h1 j hj)
    rw [zk] at this
    split at this
    · assumption
    · simp at this
  have hs':Sat cx E { t:=keepT (hsel p s.h) s.t,h:=hsel p s.h,g:=s.g } a w:=
    { slots:=fun k g v hk=>by
        have hk':lk (keepT (hsel p s.h) s.t) k=some (g,v):=hk
        rw [zgg] at hk'
        obtain ⟨q,hq,e⟩:=Option.map_eq_some_iff.1 hk'
        obtain ⟨g',v'⟩:=q
        simp only [Prod.mk.injEq] at e
        obtain ⟨rfl,rfl⟩:=e
        obtain ⟨x,h1,h2,h3⟩:=hs.slots k g' v' hq
        refine ⟨x,h1,fun e=>?_,h3⟩
        split
        · rename_i hall
          refine zlv (fun j hj=>?_) (h2 e)
          have:=List.all_eq_true.1 hall j hj
          rw [zk] at this
          split at this
          · assumption
          · simp at this
        · simp only [Rep]
      nt:=hs.nt
      hp:=zgd hs.hp hcl
      base:=hs.base
      marks:=hs.marks
      ghost:=cx.stab _ _ _ _ _ w _ (fun _ _ _=>rfl) (fun _ hb=> .inl (hb.imp zB id)) (fun b hb=>hb.elim (fun h=>(hs.hp.own b (zB h)).1) hs.marks.lt) (Nat.le_refl _) rfl rfl rfl hs.ghost }
  refine wpIn_mono (h E a w hs') (fun _ _ _ hr=>hr.trans ?_)
  exact ⟨rfl,rfl,rfl,Nat.le_refl _,fun _ _ _ _=>rfl,fun b hb=> .inl (zB hb),fun _ h=>h,fun _ h=> .inl h,rfl,fun j _ hj=>by
    have hj':(hget (hsel p s.h) j).isSome:=hj
    rw [zk] at hj'
    split at hj'
    · rename_i hp
      exact ⟨hj',zcm j hp⟩
    · simp at hj'⟩
end
attribute [go_sem] aopsY aopY zcG cxY IterK keepT
end Go.Aw
