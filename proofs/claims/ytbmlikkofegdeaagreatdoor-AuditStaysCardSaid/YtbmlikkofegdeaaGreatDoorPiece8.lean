/-
  Parts of the proof: AwCall, AwRow, AwLaw, AwLaid, AwSimp (short names; the readable texts lie in the repo, under wip).
-/
import Derived.Test.YtbmlikkofegdeaaGreatDoorPiece7
import Derived.ProofKit
import Derived.OpenShut
import Derived.ChangeSame
import Derived.LaidMore
import Derived.Lay
import Derived.MakeChecks
set_option maxRecDepth 100000
set_option maxHeartbeats 2000000
set_option linter.unusedSimpArgs false
set_option linter.unusedVariables false
namespace Go.Aw
open Go
def ares (P:Program) (s:AS):List ResultVar->Prop×List AV
 | []=>(True,[])
 | .tmp t::r=>((s.ev (.tmp t)).1=true/\(ares P s r).1,(s.ev (.tmp t)).2::(ares P s r).2)
 | .cell x t::r=>((s.ev (.tmp x)).1=true/\(zea P s t (s.ev (.tmp x)).2).1/\(ares P s r).1,(zea P s t (s.ev (.tmp x)).2).2::(ares P s r).2)
def one:List AV->AV
 | [v]=>v
 |vs=> .tup vs
def RetK (P:Program) (fn:Func) (K:AV->AHeap->Prop):Exit->AS->Prop
 | .normal,s=>(ares P s fn.results.toList).1/\K (one (ares P s fn.results.toList).2) s.h
 | .ret,s=>(ares P s fn.results.toList).1/\K (one (ares P s fn.results.toList).2) s.h
 |_,_=>False
def za8:Nat->List AV->List (Nat×(Bool×AV))
 |_,[]=> []
 |i,a::r=>(i,(true,a))::za8 (i+1) r
def cxOf (P:Program) (base nt fl:Nat):Cx:= { P:=P,ro:=none,base:=base,nt:=nt,fl:=fl,G:=λ_ _ _ _ _=>True,stab:=λ_ _ _ _ _ _ _ _ _ _ _ _ _ _ _=>trivial,yok:=λxs x _ _ _ _ _ _ _ _ _ hp=>absurd hp (by simp) }
section
variable {P : Program}
theorem zfm:∀ (args:List AV) (i k:Nat) {g:Bool} {v:AV},lk (za8 i args) k=some (g,v)->g=true/\i<=k/\args[k - i]?=some v
 | [],i,k,g,v,h=>by simp [za8,lk] at h
 | a::r,i,k,g,v,h=>by
  simp only [za8,lk] at h;split at h
  ·rename_i e;subst e;simp only [Option.some.injEq,Prod.mk.injEq] at h;obtain ⟨rfl,rfl⟩:=h;simp
  ·rename_i e;obtain ⟨h1,h2,h3⟩:=zfm r (i+1) k h;refine ⟨h1,by omega,?_⟩;obtain ⟨d,rfl⟩:∃d,k=i+1+d:=⟨k - (i+1),by omega⟩
   rw [show i+1+d - i=d+1 by omega];rw [show i+1+d - (i+1)=d by omega] at h3;simpa using h3
structure Shut (base:Nat) (w w':World):Prop where
 os:w'.os=w.os
 tape:w'.tape=w.tape
 output:w'.output=w.output
 size:w'.heap.size=w.heap.size
 low:∀b,b<base->w'.heap[b]?=w.heap[b]?
 keep:∀ (b:Nat) (o:Obj),w.heap[b]?=some o->(∀ds,o≠ .deferred ds)->(∀r,o≠ .loop r)->w'.heap[b]?=some o
theorem Shut.refl (base:Nat) (w:World):Shut base w w:=⟨rfl,rfl,rfl,rfl,λ_ _=>rfl,λ_ _ h _ _=>h⟩
theorem zfn {base:Nat} {E:Env} {fn:Func} {tmps:Array Value} {R:Ending->World->Prop} :∀ (ds:List Deferred) (w:World),Marks base E w ds->
  (∀w'',Shut base w w''->(∀b,¬zaV ds b->w''.heap[b]?=w.heap[b]?)->∃v,(results fn tmps).run P w''= .ok v w''/\R (.returned v) w'')->LeavesInM Fence.wide 0 P fn tmps R ds .returning w
 | [],w,_,h=>h w (Shut.refl _ _) (λ_ _=>rfl)
 | d::ds,w,hm,h=>by
  obtain ⟨r,h1,h2,h3,h4⟩:=hm.1 d (by simp);refine ⟨by simp,.inl ⟨r,w.putObj r (.deferred none),h1,run_takeDeferred h2,?_⟩⟩;have hr:=(Array.getElem?_eq_some_iff.1 h2).1;refine zfn (base:=base) (E:=E) ds _ ⟨λd' hd'=>?_,?_⟩ (λw'' hs ho=>h w'' ?_ ?_)
  ·obtain ⟨r',g1,g2,g3,g4⟩:=hm.1 d' (by simp [hd'])
   have hne:r'≠r:=by intro e;subst e;have:=hm.2;simp only [List.map_cons,h1,List.nodup_cons,List.mem_map,not_exists,not_and] at this;exact this.1 d' hd' (by rw [g1])
   exact ⟨r',g1,(World.putObj_heap_other hne).trans g2,g3,g4⟩
  ·have:=hm.2;simp only [List.map_cons,List.nodup_cons] at this;exact this.2
  ·refine ⟨hs.os,hs.tape,hs.output,by rw [hs.size];simp,λb hb=>(hs.low b hb).trans (World.putObj_heap_other (by omega)),λb o hb ho hl=>hs.keep b o ?_ ho hl⟩
   have hne:b≠r:=by intro e;subst e;rw [h2] at hb;cases hb;exact ho _ rfl
   exact (World.putObj_heap_other hne).trans hb
  ·intro b hb;refine (ho b (λ⟨d',hd',e⟩=>hb ⟨d',by simp [hd'],e⟩)).trans (World.putObj_heap_other (λe=>hb ⟨d,by simp,by rw [h1,e]⟩))
theorem Shut.hK {base:Nat} {w w':World} (h:Shut base w w') {X:Nat->Prop} :∀b c T fz,w.heap[b]?=some (.cells c T fz)->¬X b->w'.heap[b]?=some (.cells c T fz):=λb c T fz hb _=>h.keep b _ hb (by intro ds e;cases e) (by intro ds e;cases e)
theorem SatH.refit {E E':Env} {h:AHeap} {w w':World} {base:Nat} (hs:SatH E h w) (sh:Shut base w w') (hO:E'.O=E.O) (hC:E'.C=E.C) (hX:∀b,b<w.heap.size->Xs E' h b->Xs E h b)
  (own:∀b,Own E h b->¬E'.M b/\¬E'.N b) (m:∀b,E'.M b->b<w.heap.size) (n:∀b,E'.N b->b<w.heap.size):SatH E' h w' where
 heap:=λi o ho=>by
  have hg:∀j,GoesOn E h E' h j:=λj=>by unfold GoesOn;split<;>simp_all
  have:=hs.heap i o ho;cases o with
  |var cs=>
   simp only [RepObj,hO] at this ⊢;obtain ⟨b,d,T,fz,h1,h2,h3,h4⟩:=this;exact ⟨b,d,T,fz,h1,sh.keep _ _ h2 (by intro ds e;cases e) (by intro ds e;cases e),Reps.stepc (hX_of hX) sh.hK _ _ (λj _=>hg j) h3,h4⟩
  |tvar tt cs=>
   simp only [RepObj,hO] at this ⊢;obtain ⟨b,d,T,fz,h1,h2,h3,h4⟩:=this;exact ⟨b,d,T,fz,h1,sh.keep _ _ h2 (by intro ds e;cases e) (by intro ds e;cases e),Reps.stepc (hX_of hX) sh.hK _ _ (λj _=>hg j) h3,h4⟩
  |arr k xs=>
   simp only [RepObj,hO,hC] at this ⊢;rcases this with h0|⟨b,d,T,fz,h1,h2,h3,h4,h5,h6⟩
   ·exact .inl h0
   ·exact .inr ⟨b,d,T,fz,h1,sh.keep _ _ h2 (by intro ds e;cases e) (by intro ds e;cases e),h3,h4,RepRows.stepc (hX_of hX) sh.hK _ _ _ h5,h6⟩
  |buf tt xs=>
   simp only [RepObj,hO,hC] at this ⊢;rcases this with h0|⟨b,d,T,fz,h1,h2,h3,h4,h5,h6⟩
   ·exact .inl h0
   ·exact .inr ⟨b,d,T,fz,h1,sh.keep _ _ h2 (by intro ds e;cases e) (by intro ds e;cases e),h3,h4,h5,h6⟩
  |strit l p=>
   simp only [RepObj,hO] at this ⊢;obtain ⟨b,h1,h2⟩:=this;exact ⟨b,h1,sh.keep _ _ h2 (by intro ds e;cases e) (by intro ds e;cases e)⟩
  |omap es=>
   simp only [RepObj,hO] at this ⊢;obtain ⟨b,mm,cl,h1,h2,h3⟩:=this;exact ⟨b,mm,cl,h1,sh.keep _ _ h2 (by intro ds e;cases e) (by intro ds e;cases e),h3⟩
 inj:=λi j b h1 h2=>by rw [hO];exact hs.inj i j b h1 h2
 own:=λb hb=>by
  have hb':Own E h b:=by obtain ⟨i,hi,he⟩:=hb;exact ⟨i,hi,by rw [<-hO];exact he⟩
  exact ⟨by rw [sh.size];exact (hs.own b hb').1,own b hb'⟩
 mlt:=λb hb=>by rw [sh.size];exact m b hb
 nlt:=λb hb=>by rw [sh.size];exact n b hb
theorem Rep.refit {E E':Env} {h:AHeap} {w w':World} {base:Nat} (sh:Shut base w w') (hO:E'.O=E.O) (hC:E'.C=E.C) (hX:∀b,b<w.heap.size->Xs E' h b->Xs E h b) {a:AV} {v:Value} (hr:Rep w E h a v):Rep w' E' h a v:=
 Rep.stepc (hX_of hX) sh.hK a v (λj _=>by unfold GoesOn;split<;>simp_all) hr
theorem Reps.refit {E E':Env} {h:AHeap} {w w':World} {base:Nat} (sh:Shut base w w') (hO:E'.O=E.O) (hC:E'.C=E.C) (hX:∀b,b<w.heap.size->Xs E' h b->Xs E h b) {a:List AV} {v:List Value} (hr:Reps w E h a v):Reps w' E' h a v:=
 Reps.stepc (hX_of hX) sh.hK a v (λj _=>by unfold GoesOn;split<;>simp_all) hr
def zka (tmps:Array Value):ResultVar->Sem Value
 | .tmp t=>pure (tmps.getD t undef)
 | .cell a t=>asAddr (tmps.getD a undef) >>= λp=>loadVar t p
def oneV:List Value->Value
 | [v]=>v
 |vs=> .tuple vs.toArray
theorem zkb (fn:Func) (tmps:Array Value):results fn tmps=(do let vs <-fn.results.mapM (zka tmps);pure (if h:vs.size=1 then vs[0] else .tuple vs)):=by unfold results;congr 1
theorem znD {fn:Func} {tmps:Array Value} {vs:List Value} {w:World} (h:(fn.results.toList.mapM (zka tmps)).run P w= .ok vs w):(results fn tmps).run P w= .ok (oneV vs) w:=by
 rw [zkb,Array.mapM_eq_mapM_toList];simp only [Sem.run_bind,Sem.run_map,h,Result.andThen_ok,Sem.run_pure]
 match vs with
 | []=>rfl
 | [v]=>rfl
 |v::u::r=>rfl
theorem znE {E:Env} {s:AS} {a:Act} {w:World} (hp:SatH E s.h w) (hs:Slots w E s a):∀ (l:List ResultVar),(ares P s l).1->∃vs,(l.mapM (zka a.tmps)).run P w= .ok vs w/\Reps w E s.h (ares P s l).2 vs
 | [],_=>⟨[],by simp,by simp [ares,Reps]⟩
 | .tmp t::l,h=>by simp only [ares] at h ⊢;obtain ⟨vs,h1,h2⟩:=znE hp hs l h.2;have:=ev_ok hs (.tmp t) h.1;simp only [Act.eval] at this;refine ⟨a.tmps.getD t undef::vs,?_,by simp only [Reps];exact ⟨_,_,rfl,this,h2⟩⟩;simp only [List.mapM_cons,zka,Sem.run_bind,Sem.run_pure,Result.andThen_ok,h1]
 | .cell x t::l,h=>by
  simp only [ares] at h ⊢;obtain ⟨vs,h1,h2⟩:=znE hp hs l h.2.2;have hx:=ev_ok hs (.tmp x) h.1;obtain ⟨v,h3,h4⟩:=zlX (P:=P) hp h.2.1 hx;refine ⟨v::vs,?_,by simp only [Reps];exact ⟨_,_,rfl,h4,h2⟩⟩
  have h5:(zka a.tmps (.cell x t)).run P w= .ok v w:=by
   simp only [Act.eval] at h3;revert h3;unfold Instr.loadAt Instr.sureAddr zka asAddr;simp only [Sem.run_bind];cases a.tmps.getD x undef with
   |pointer p=>
    cases p with
    |none=>intro h3;simp at h3
    |some p=>intro h3;simpa using h3
   |_=>intro h3;simp at h3
  simp only [List.mapM_cons,Sem.run_bind,h5,Result.andThen_ok,h1,Sem.run_pure]
theorem zwF {E:Env} {h:AHeap} {w:World} {aZ:List AV} {vs:List Value} (hr:Reps w E h aZ vs):Rep w E h (one aZ) (oneV vs):=by
 match aZ,vs,hr with
 | [],vs,hr=>simp only [Reps] at hr;subst hr;simp [one,oneV,Rep,Reps]
 | [a],vs,hr=>
  simp only [Reps] at hr;obtain ⟨v,r,rfl,h1,rfl⟩:=hr;simpa [one,oneV] using h1
 |a::b::aZ,vs,hr=>
  have hr':=hr;simp only [Reps] at hr;obtain ⟨v,r,rfl,h1,u,r',rfl,h2,h3⟩:=hr;simp only [one,oneV,Rep];exact ⟨_,rfl,by simpa using hr'⟩
theorem zdn {f:FuncId} {fn:Func} (hf:P.funcs[f]?=some fn) (hn:(fn.name== "runtime.NumGoroutine")=false) (hb:fn.body.isNone=false):zgy P f:=by intro args w;simp only [callFunc,Sem.run_bind,run_program,Result.andThen_ok,hf,hn,hb,Bool.false_eq_true,if_false,Sem.run_pure]
theorem zaP {f:FuncId} {fn:Func} {c:Code} {nt fl:Nat} {args:List AV} {h:AHeap} {K:AV->AHeap->Prop} (hf:P.funcs[f]?=some fn) (hb:fn.body=some c) (hen:zgy P f) (hnt:fn.ntmps=nt) (hn:args.length<=nt)
  (haw:∀base,AW (cxOf P base nt fl) c (RetK P fn K) { t:=za8 0 args,h:=h,g:=some [] }):ACall P f fl args h K:=by
 refine ⟨hen,λE w vs hs hr=>(callsIn_wide (n:=0)).1 (callsIn_of_wp_marks hf hb trivial ?_ rfl)⟩;subst hnt;have hlen:=Reps.length hr;let E1:Env:= { O:=E.O,C:=E.C,M:=λ_=>False,N:=λb=>E.M b\/E.N b }
 have hX1:∀b,b<w.heap.size->Xs E1 h b->Xs E h b:=λb _ hx=>by
  rcases hx with hx|hx|hx
  ·exact .inl hx
  ·exact hx.elim
  ·exact .inr hx
 have hs1:SatH E1 h w:=hs.refit (Shut.refl 0 w) rfl rfl hX1 (λb hb=>⟨λh=>h,λhn=>hn.elim (hs.own b hb).2.1 (hs.own b hb).2.2⟩) (λ_ h=>h.elim) (λb hn=>hn.elim (hs.mlt b) (hs.nlt b));have hr1:Reps w E1 h args vs.toList:=Reps.refit (E:=E) (E':=E1) (Shut.refl 0 w) rfl rfl hX1 hr
 have hsat:Sat (cxOf P w.heap.size fn.ntmps fl) E1 { t:=za8 0 args,h:=h,g:=some [] } { tmps:=vs++Array.replicate (fn.ntmps - vs.size) undef,defers:= [] } w:=by
  refine ⟨λk g v hk=>?_,?_,hs1,Nat.le_refl _,⟨by simp,by simp⟩,trivial⟩
  ·obtain ⟨rfl,_,hv⟩:=zfm args 0 k hk;obtain ⟨x,hx,hrx⟩:=Reps.get hr1 hv;have hx':vs[k]?=some x:=by simpa using hx
   have hk':=(Array.getElem?_eq_some_iff.1 hx').1;exact ⟨x,by rw [Array.getElem?_append_left hk'];exact hx',λ_=>hrx,λe=>by cases e⟩
  ·have:vs.size=args.length:=by simpa using hlen
   simp [cxOf];omega
 refine wpIn_mono (haw w.heap.size E1 _ w hsat) ?_;intro e a2 w2 hr2
 have key:Reach (cxOf P w.heap.size fn.ntmps fl) E1 h w (λs=>(ares P s fn.results.toList).1/\K (one (ares P s fn.results.toList).2) s.h) a2 w2->LeavesInM Fence.wide 0 P fn a2.tmps (λe w'=>∃v E' r h',e= .returned v/\K r h'/\SatH E' h' w'/\Rep w' E' h' r v/\EvoC fl E h w E' h' w') a2.defers .returning w2:=by
  rintro ⟨E2,s2,⟨hares,hK⟩,hs2,he2⟩;refine zfn a2.defers w2 hs2.marks (λw3 sh _=>?_);have hp3:SatH E2 s2.h w3:=hs2.hp.refit sh rfl rfl (λ_ _ h=>h) (λb hb=>(hs2.hp.own b hb).2) hs2.hp.mlt hs2.hp.nlt
  have hsl3:Slots w3 E2 s2 a2:=λk g v hk=>by obtain ⟨x,h1,h2,h3⟩:=hs2.slots k g v hk;exact ⟨x,h1,λe=>Rep.refit sh rfl rfl (λ_ _ h=>h) (h2 e),h3⟩
  obtain ⟨us,hu1,hu2⟩:=znE (P:=P) hp3 hsl3 fn.results.toList hares;refine ⟨_,znD hu1,?_⟩;have hM2:∀b,E2.M b->w.heap.size<=b:=λb hb=>(he2.m2 b hb).elim (λh=>h.elim) id;have hN2:E2.N=λb=>E.M b\/E.N b:=he2.n;let E3:Env:= { O:=E2.O,C:=E2.C,M:=E.M,N:=E.N }
  have hX3:∀b,b<w3.heap.size->Xs E3 s2.h b->Xs E2 s2.h b:=λb _ hx=>by
   rcases hx with hx|hx|hx
   ·exact .inl hx
   ·exact .inr (.inr (by rw [hN2];exact .inl hx))
   ·exact .inr (.inr (by rw [hN2];exact .inr hx))
  have hsz:w.heap.size<=w3.heap.size:=by rw [sh.size];exact he2.size
  refine ⟨_,E3,_,s2.h,rfl,hK,?_,Rep.refit (E:=E2) (E':=E3) (Shut.refl 0 w3) rfl rfl hX3 (zwF hu2),?_⟩
  ·refine hp3.refit (E':=E3) (Shut.refl 0 w3) rfl rfl hX3 (λb hb=>?_) (λb hb=>Nat.lt_of_lt_of_le (hs.mlt b hb) hsz) (λb hb=>Nat.lt_of_lt_of_le (hs.nlt b hb) hsz);have:=(hp3.own b hb).2.2;rw [hN2] at this;exact ⟨λh=>this (.inl h),λh=>this (.inr h)⟩
  ·refine ⟨sh.os.trans he2.os,sh.tape.trans he2.tape,sh.output.trans he2.output,hsz,λb hb ho=>(sh.low b hb).trans (he2.keep b hb ho (λh=>h)),he2.own,rfl,rfl,?_⟩;intro i hi hl;obtain ⟨g1,g2⟩:=he2.go i hi hl;exact ⟨g1,g2⟩
 cases e with
 |normal=>exact key hr2
 |ret=>exact key hr2
 |exit id=>obtain ⟨_,_,h,_⟩:=hr2;exact h.elim
 |goto id=>obtain ⟨_,_,h,_⟩:=hr2;exact h.elim
 |panic c=>obtain ⟨_,_,h,_⟩:=hr2;exact h.elim
 |outgrown=>obtain ⟨_,_,h,_⟩:=hr2;exact h.elim
theorem ACall.mono {f:FuncId} {fl:Nat} {args:List AV} {h:AHeap} {K K':AV->AHeap->Prop} (hc:ACall P f fl args h K) (hk:∀r h,K r h->K' r h):ACall P f fl args h K':=
 ⟨hc.1,λE w vs hs hr=>(hc.2 E w vs hs hr).mono λe w' ⟨v,E',r,h',h1,h2,h3⟩=>⟨v,E',r,h',h1,hk _ _ h2,h3⟩⟩
end
open Go Go.RowKit Go.ChangeShapes Go.WideShapes
def DTy (P:Program):Nat→TypeId→List D→Prop
  |0,_,_=>False
  | d+1,t,xs=>
    match (ty P t).td with
    | .int k=>∃n,xs= [.int k n]∧k.min≤n∧n≤k.max
    | .bool=>∃b,xs= [.bool b]
    | .str=>∃l,xs= [.str l]∧l.length≤9223372036854775807
    | .slice e=>∃rows,xs= [.sl (ty P e).size rows]∧rows.length≤9223372036854775807∧∀r∈rows,DTy P d e r
    | .struct fs=>fields fs xs (fun f=>DTy P d f)
    | .arr n e=>∃parts:List (List D),xs=parts.flatten∧parts.length=n∧∀p∈parts,DTy P d e p
    |_=>False
 where
  fields (fs:List (Nat×Nat)) (xs:List D) (r:TypeId→List D→Prop):Prop:=
    match fs with
    | []=>xs= []
    |f::fs=>∃a b,xs=a++b∧r f.2 a∧fields fs b r
def plainTy (P:Program):Nat→TypeId→Bool
  |0,_=>false
  | d+1,t=>
    match (ty P t).td with
    | .int _=>true
    | .bool=>true
    | .str=>true
    | .slice e=>plainTy P d e&&decide (0<(ty P e).size)
    | .struct fs=>(offs fs 0==some (ty P t).size)&&fs.all fun f=>plainTy P d f.2
    | .arr n e=>plainTy P d e&&(n*(ty P e).size==(ty P t).size)
    |_=>false
 where
  offs:List (Nat×Nat)→Nat→Option Nat
    | [],o=>some o
    |f::fs,o=>if f.1==o then offs fs (o+(ty P f.2).size) else none
section
variable {P : Program} {W : World} {X : Nat -> Prop} {H : Type} {enc : TypeId × Value -> H}
theorem RepDs.append:∀ {aZ bs:List D} {vs ws:List Value},RepDs W X aZ vs->RepDs W X bs ws->RepDs W X (aZ++bs) (vs++ws)
 | [],bs,_,ws,hr,hb=>by simp only [RepDs] at hr;subst hr;simpa using hb
 |b::aZ,bs,_,ws,hr,hb=>by simp only [RepDs] at hr;obtain ⟨v,r,rfl,h2,h3⟩:=hr;simp only [List.cons_append,RepDs];exact ⟨_,_,rfl,h2,RepDs.append h3 hb⟩
theorem zin {k:Nat} {Q:List D->Prop} :∀ (n:Nat) (vs:List Value),(∀i,i<n->∃r,Q r/\r.length=k/\RepDs W X r ((vs.drop (i*k)).take k))->∃rows:List (List D),rows.length=n/\(∀r∈rows,Q r)/\RepRows W X k rows vs
 |0,vs,_=>⟨[],rfl,by simp,by simp [RepRows]⟩
 | n+1,vs,h=>by
  obtain ⟨r,h1,h2,h3⟩:=h 0 (by omega)
  obtain ⟨rows,g1,g2,g3⟩:=zin n (vs.drop k) (λi hi=>by obtain ⟨r,q1,q2,q3⟩:=h (i+1) (by omega);exact ⟨r,q1,q2,by rw [List.drop_drop];rwa [show k+i*k=(i+1)*k by rw [Nat.succ_mul];omega]⟩)
  exact ⟨r::rows,by simp [g1],by simpa using ⟨h1,g2⟩,by simp only [RepRows];exact ⟨h2,by simpa using h3,g3⟩⟩
theorem zhG {k : Nat} {Q : List D → Prop} :∀ (n:Nat) (vs:List Value),vs.length=n*k→(∀i,i<n→∃r,Q r∧RepDs W X r ((vs.drop (i*k)).take k))→∃rows:List (List D),rows.length=n∧(∀r∈rows,Q r)∧RepDs W X rows.flatten vs
  | 0, vs, hl, _ => ⟨[], rfl, by simp, by have:vs= []:=by simpa using hl
                                          subst this;simp [RepDs]⟩
  | n +1,vs,hl,h=>by
    obtain ⟨r,h1,h3⟩:=h 0 (by omega)
    obtain ⟨rows,g1,g2,g3⟩:=zhG (k:=k) n (vs.drop k) (by rw [List.length_drop,hl,Nat.succ_mul];omega) (fun i hi=>by
      obtain ⟨r,q1,q3⟩:=h (i+1) (by omega)
      exact ⟨r,q1,by rw [List.drop_drop];rwa [show k+i*k=(i+1)*k by rw [Nat.succ_mul];omega]⟩)
    refine ⟨r::rows,by simp [g1],by simpa using ⟨h1,g2⟩,?_⟩
    rw [List.flatten_cons,← List.take_append_drop k vs]
    exact RepDs.append (by simpa using h3) g3
theorem zl6 {a:Addr} {n:Nat} {cs:List Value} (h:W.cells? 0 a n=some cs):cs.length=n/\∀i,i<n->W.cell? (a.add i)=cs[i]?:=by unfold World.cells? at h;rw [if_pos (Nat.zero_le _)] at h;have h1:=mapM_some_length h;exact ⟨by simpa using h1,λi hi=>mapM_some_get h i i (by simp [hi])⟩
theorem zhZ (hX:∀b,¬X b):∀ (d:Nat) (t:TypeId) (n:Nat) (cs:List Value) (x:DataW H×List MemPlace),plainTy P d t=true→DataW.trod enc P W 0 (fun _=>true) true n t cs=some x→
  ∃xs,DTy P d t xs∧RepDs W X xs cs
 |0,t,n,cs,x,hp,_=>by simp [plainTy] at hp
 | d + 1,t,n,cs,x,hp,h=>by
  unfold plainTy at hp
  unfold DTy
  have hsz1:∀ {desc},P.underlying t=some desc→(ty P t).size=P.cellsOf t:=fun _=>rfl
  split at hp
  ·rename_i k ht
   have hu:=zgh ht
   obtain ⟨m,rfl,_,hw⟩:=DataW.trod_int hu h
   simp only [Lit.wf,Bool.and_eq_true,decide_eq_true_eq] at hw
   exact ⟨[.int k m],⟨m,rfl,hw.1,hw.2⟩,by simp [RepDs,RepD]⟩
  ·rename_i ht
   have hu:=zfF ht
   obtain ⟨m,rfl,_⟩:=DataW.trod_bool hu h
   exact ⟨[.bool m],⟨m,rfl⟩,by simp [RepDs,RepD]⟩
  ·rename_i ht
   have hu:=zcy ht
   obtain ⟨m,rfl,_,hw⟩:=DataW.trod_string hu h
   have h9:m.data.size≤9223372036854775807:=Nat.le_trans hw (by decide)
   exact ⟨[.str m.data.toList],⟨_,rfl,by simpa using h9⟩,by simp [RepDs,RepD]⟩
  ·rename_i e ht
   have hu:=zO ht
   simp only [Bool.and_eq_true,decide_eq_true_eq] at hp
   obtain ⟨hpe,hk⟩:=hp
   rcases DataW.trod_slice hu h with ⟨rfl,_⟩|⟨a,len,cap,elems,rest,m,rfl,rfl,_,_,hlc,hcap,hel,hget,_,_⟩
   ·exact ⟨[.sl (ty P e).size []],⟨[],rfl,by simp,by simp⟩,by simp [RepDs,RepD]⟩
   ·have hce:P.cellsOf e=(ty P e).size:=rfl
    rw [hce] at hget
    have hrow:∀i,i<len→∃cs,W.cells? 0 (a.add (i*(ty P e).size)) (ty P e).size=some cs∧∃y,DataW.trod enc P W 0 (fun _=>true) true m e cs=some y:=fun i hi=>by
     have:=hget i hi
     rw [List.getElem?_eq_getElem (by omega)] at this
     obtain ⟨cs,h1,h2⟩:=Option.bind_eq_some_iff.1 this
     exact ⟨cs,h1,_,h2⟩
    rcases Nat.eq_zero_or_pos len with h0|h0
    ·subst h0
     exact ⟨[.sl (ty P e).size []],⟨[],rfl,by simp,by simp⟩,by simp [RepDs,RepD]⟩
    ·-- the first cell shows the block
     obtain ⟨cs0,hc0,_⟩:=hrow 0 h0
     obtain ⟨hl0,hg0⟩:=zl6 hc0
     have hcell:=hg0 0 hk
     rw [Nat.zero_mul,List.getElem?_eq_getElem (by omega)] at hcell
     have ha0:(a.add 0).add 0=a:=by simp [Addr.add]
     rw [ha0] at hcell
     obtain ⟨ab,ao,asp⟩:=a
     unfold World.cell? at hcell
     cases hb:W.heap[ab]? with
     |none=>simp [hb] at hcell
     | some o=>
      cases o<;>simp only [hb] at hcell<;>try cases hcell
      rename_i c T fz
      have hsp:asp=none:=by
       cases asp with
       |none=>rfl
       |some q=>simp at hcell
      subst hsp
      obtain ⟨rows,g1,g2,g3⟩:=zin (W:=W) (X:=X) (k:=(ty P e).size) (Q:=DTy P d e) len (c.toList.drop ao) (fun i hi=>by
       obtain ⟨cs,h1,y,h2⟩:=hrow i hi
       obtain ⟨hl,hg⟩:=zl6 h1
       obtain ⟨xs,q1,q2⟩:=zhZ hX d e m cs y hpe h2
       have hcs:cs=((c.toList.drop ao).drop (i*(ty P e).size)).take (ty P e).size:=by
        apply List.ext_getElem?
        intro j
        by_cases hj:j<(ty P e).size
        ·have:=hg j hj
         rw [Addr.add_none,Addr.add_none,zac hb] at this
         rw [← this,List.getElem?_take_of_lt hj,List.getElem?_drop,List.getElem?_drop,← Array.getElem?_toList]
         congr 1;omega
        ·rw [List.getElem?_eq_none (by omega),List.getElem?_eq_none (by simp;omega)]
       exact ⟨xs,q1,by rw [← RepDs.length q2,hl],by rw [← hcs];exact q2⟩)
      refine ⟨[.sl (ty P e).size rows],⟨rows,rfl,by rw [g1];exact Nat.le_trans hlc (Nat.le_trans hcap (by decide)),g2⟩,?_⟩
      simp only [RepDs,RepD]
      exact ⟨_,_,rfl,.inr ⟨⟨ab,ao,none⟩,cap,c,T,fz,by rw [g1],rfl,by omega,hX _,hb,g3⟩,rfl⟩
  ·rename_i fs ht
   obtain ⟨gs,hu,hgs,_⟩:=zes ht
   simp only [Bool.and_eq_true,beq_iff_eq] at hp
   obtain ⟨hof,hall⟩:=hp
   obtain ⟨ys,m,rfl,_,hcl,hyl,hget⟩:=DataW.trod_struct hu h
   have hcl':cs.length=(ty P t).size:=hcl
   have key:∀ (l:List (Nat×Nat)) (o:Nat),plainTy.offs P l o=some (ty P t).size→(l.all fun f=>plainTy P d f.2)=true→(∀f∈l,∃y,DataW.trod enc P W 0 (fun _=>true) true m f.2 ((cs.drop f.1).take (ty P f.2).size)=some y)→
     ∃xs,DTy.fields l xs (fun f=>DTy P d f)∧RepDs W X xs (cs.drop o):=by
    intro l
    induction l with
    |nil=>
     intro o ho _ _
     simp only [plainTy.offs,Option.some.injEq] at ho
     refine ⟨[],by simp [DTy.fields],?_⟩
     rw [List.drop_eq_nil_of_le (by omega)]
     simp [RepDs]
    | cons f l ih=>
     intro o ho ha hf
     simp only [plainTy.offs] at ho
     split at ho
     ·rename_i ho1
      simp only [beq_iff_eq] at ho1
      simp only [List.all_cons,Bool.and_eq_true] at ha
      obtain ⟨y,hy⟩:=hf f (by simp)
      obtain ⟨xs,q1,q2⟩:=zhZ hX d f.2 m _ y ha.1 hy
      obtain ⟨zs,r1,r2⟩:=ih _ ho ha.2 (fun g hg=>hf g (by simp [hg]))
      refine ⟨xs++zs,⟨xs,zs,rfl,q1,r1⟩,?_⟩
      rw [ho1] at q2
      have:cs.drop o=(cs.drop o).take (ty P f.2).size++cs.drop (o+(ty P f.2).size):=by
       rw [← List.drop_drop,List.take_append_drop]
      rw [this]
      exact RepDs.append q2 r2
     ·cases ho
   obtain ⟨xs,q1,q2⟩:=key fs 0 hof hall (fun f hf=>by
    rw [← hgs] at hf
    obtain ⟨g,hg,rfl⟩:=List.mem_map.1 hf
    obtain ⟨i,hi,hgi⟩:=List.getElem_of_mem hg
    have h1:=hget i g (by rw [← Array.getElem?_toList,List.getElem?_eq_getElem hi,hgi])
    have hlt:i<ys.length:=by rw [hyl];simpa using hi
    rw [List.getElem?_eq_getElem hlt] at h1
    exact ⟨_,h1⟩)
   exact ⟨xs,q1,by simpa using q2⟩
  ·rename_i k e ht
   have hu:=zdM ht
   simp only [Bool.and_eq_true,beq_iff_eq] at hp
   obtain ⟨hpe,hsz⟩:=hp
   obtain ⟨ys,m,rfl,_,hcl,hyl,hget⟩:=DataW.trod_array hu h
   have hcl':cs.length=(ty P t).size:=hcl
   obtain ⟨parts,g1,g2,g3⟩:=zhG (W:=W) (X:=X) (k:=(ty P e).size) (Q:=DTy P d e) k cs (by rw [hcl',hsz]) (fun i hi=>by
    have h1:=hget i hi
    rw [List.getElem?_eq_getElem (by omega)] at h1
    obtain ⟨xs,q1,q2⟩:=zhZ hX d e m _ _ hpe h1
    exact ⟨xs,q1,q2⟩)
   exact ⟨parts.flatten,⟨parts,rfl,g1,g2⟩,g3⟩
  ·cases hp
end
open Go Go.RowKit Go.ChangeShapes Go.WideShapes
def argAV (P:Program) (t:TypeId) (xs:List D):AV:=
 match (ty P t).td with
 | .struct _=> .agg (xs.map .d)
 | .arr _ _=> .agg (xs.map .d)
 |_=>match xs with
  | [x]=> .d x
  |_=> .any
def DTys (P:Program):List TypeId->List (List D)->Prop
 | [],l=>l= []
 |t::ts,l=>∃x r,l=x::r/\DTy P 9 t x/\DTys P ts r
def zhH (P:Program):List TypeId->List (List D)->List AV
 |t::ts,x::r=>argAV P t x::zhH P ts r
 |_,_=> []
section
variable {H : Type} {enc : TypeId × Value -> H} {P : Program} {W : World}
def E0:Env:= { O:=λ_=>none,C:=λ_=>0,M:=λ_=>False,N:=λ_=>False }
theorem satH0 (W:World):SatH E0 [] W:=⟨λi o ho=>by simp [hget] at ho,λi j b h1=>by simp [hget] at h1,λb ⟨i,hi,_⟩=>by simp [hget] at hi,λ_ h=>h.elim,λ_ h=>h.elim⟩
theorem noX0:∀b,¬Xs E0 [] b:=λb hx=>by
 rcases hx with ⟨i,hi,_⟩|hx|hx
 ·simp [hget] at hi
 ·exact hx
 ·exact hx
theorem zkc {E:Env} {h:AHeap} :∀ {xs:List D} {vs:List Value},RepDs W (Xs E h) xs vs->Reps W E h (xs.map .d) vs
 | [],vs,hr=>by simpa [RepDs,Reps] using hr
 |x::xs,vs,hr=>by simp only [RepDs] at hr;obtain ⟨v,r,rfl,h2,h3⟩:=hr;simp only [List.map_cons,Reps];exact ⟨v,r,rfl,by simpa [Rep] using h2,zkc h3⟩
theorem znF {t:TypeId} {v:Value} {r:Go.Reach} {b:Nat} (h:Value.okWide P W r b t v) (hs:∀fs,P.underlying t≠some (.struct fs)) (ha:∀n e,P.underlying t≠some (.array n e)) (hn:P.underlying t≠none):∀x,v.cells.toList= [x]->v=x:=by
 intro x hx;unfold Value.okWide at h;split at h
 ·rename_i fs h1;exact (hs _ h1).elim
 ·rename_i a b h1;exact (ha _ _ h1).elim
 ·cases v<;>simp_all [Value.cells,Cell.okWide,Cell.ok]
theorem zwG {t:TypeId} {v:Value} {d:DataW H} {ps:List MemPlace} {r:Go.Reach} {b:Nat} (hp:plainTy P 9 t=true) (hv:Value.okWide P W r b t v) (h:DataW.Trod enc P W 0 (λ_=>true) true t v d ps):
  ∃xs,DTy P 9 t xs/\Rep W E0 [] (argAV P t xs) v:=by
 obtain ⟨n,hn⟩:=h;obtain ⟨xs,h1,h2⟩:=zhZ (X:=Xs E0 []) noX0 9 t n _ _ hp hn;refine ⟨xs,h1,?_⟩;have h3:=zkc (E:=E0) (h:= []) h2;unfold argAV
 have hleaf:∀x:D,xs= [x]->(∀fs,P.underlying t≠some (.struct fs))->(∀n e,P.underlying t≠some (.array n e))->P.underlying t≠none->Rep W E0 [] (.d x) v:=by rintro x rfl hs ha hn;simp only [RepDs] at h2;obtain ⟨y,r',hy,h4,rfl⟩:=h2;have:=znF hv hs ha hn y hy;subst this;simpa [Rep] using h4
 unfold plainTy at hp;unfold DTy at h1;split at hp
 ·rename_i k ht;have hu:=zgh ht;simp only [ht] at h1 ⊢;obtain ⟨m,rfl,_⟩:=h1;exact hleaf _ rfl (by rw [hu];simp) (by rw [hu];simp) (by rw [hu];simp)
 ·rename_i ht;have hu:=zfF ht;simp only [ht] at h1 ⊢;obtain ⟨m,rfl⟩:=h1;exact hleaf _ rfl (by rw [hu];simp) (by rw [hu];simp) (by rw [hu];simp)
 ·rename_i ht;have hu:=zcy ht;simp only [ht] at h1 ⊢;obtain ⟨m,rfl,_⟩:=h1;exact hleaf _ rfl (by rw [hu];simp) (by rw [hu];simp) (by rw [hu];simp)
 ·rename_i e ht;have hu:=zO ht;simp only [ht] at h1 ⊢;obtain ⟨m,rfl,_⟩:=h1;exact hleaf _ rfl (by rw [hu];simp) (by rw [hu];simp) (by rw [hu];simp)
 ·rename_i fs ht;obtain ⟨gs,hu,_⟩:=zes ht;simp only [ht];obtain ⟨cs,rfl,_⟩:=okWide_struct hu hv;simp only [Rep];exact ⟨cs,rfl,by simpa [Value.cells] using h3⟩
 ·rename_i k e ht;have hu:=zdM ht;simp only [ht];unfold Value.okWide at hv;rw [hu] at hv;obtain ⟨cs,rfl,_⟩:=hv;simp only [Rep];exact ⟨cs,rfl,by simpa [Value.cells] using h3⟩
 ·cases hp
theorem zkO {r:Go.Reach} {b:Nat} :∀ {ts:List TypeId} {vs:List Value} {ds:List (DataW H)} {ps:List MemPlace},ts.all (plainTy P 9)=true->(∀ (j:Nat) t v,ts[j]?=some t->vs[j]?=some v->Value.okWide P W r b t v)->DataW.TrodAll enc P W 0 (λ_=>true) true ts vs ds ps->
  ∃xss,DTys P ts xss/\Reps W E0 [] (zhH P ts xss) vs/\ds.length=ts.length
 | [],_,_,_,_,_,h=>by obtain ⟨rfl,rfl,rfl⟩:=trodAll_nil h;exact ⟨[],rfl,by simp [zhH,Reps],rfl⟩
 |t::ts,_,_,_,hp,hv,h=>by obtain ⟨v,vs1,d,ds1,a,b,rfl,rfl,rfl,h1,h2⟩:=trodAll_cons h;simp only [List.all_cons,Bool.and_eq_true] at hp;obtain ⟨xs,q1,q2⟩:=zwG hp.1 (hv 0 t v rfl rfl) h1;obtain ⟨xss,r1,r2,r3⟩:=zkO hp.2 (λj t v ht hv'=>hv (j+1) t v (by simpa using ht) (by simpa using hv')) h2;exact ⟨xs::xss,⟨xs,xss,rfl,q1,r1⟩,by simp only [zhH,Reps];exact ⟨_,_,rfl,q2,r2⟩,by simp [r3]⟩
theorem zrM {f:FuncId} {args:Array Value} {ts:List TypeId} {ds:List (DataW H)} {ps:List MemPlace} {r:Go.Reach} {b:Nat} (hp:ts.all (plainTy P 9)=true)
  (hv:∀ (j:Nat) t v,ts[j]?=some t->args.toList[j]?=some v->Value.okWide P W r b t v) (hA:DataW.TrodAll enc P W 0 (λ_=>true) true ts args.toList ds ps)
  (law:∀xss,DTys P ts xss->ACall P f 0 (zhH P ts xss) [] (λr _=>r= .d (.bool true))):
  Calls P f args W (λe W'=>e= .returned (.bool true)/\Below W.heap.size W W'):=by obtain ⟨xss,h1,h2,_⟩:=zkO hp hv hA;obtain ⟨_,hc⟩:=law xss h1;refine (hc E0 W args (satH0 W) h2).mono ?_;rintro e w' ⟨v,E',r',h',rfl,rfl,hs',hr',hev⟩;refine ⟨by simp only [Rep,RepD] at hr';rw [hr'],hev.os,hev.tape,hev.output,hev.size,λk hk=>hev.keep k hk (λ⟨i,hi,_⟩=>by simp [hget] at hi)⟩
theorem zl7 (hl:laidOutB P=true) {W':World} (hb:Below W.heap.size W W'):∀ {ts:List TypeId} {vs:List Value} {ds:List (DataW H)} {ps:List MemPlace},(∀t∈ts,P.readableRec t=true/\t<P.types.size)->DataW.TrodAll enc P W 0 (λ_=>true) true ts vs ds ps->
  DataW.TrodAll enc P W' 0 (λb=>decide (b<W.heap.size)) true ts vs ds ps
 | [],_,_,_,_,h=>by obtain ⟨rfl,rfl,rfl⟩:=trodAll_nil h;rfl
 |t::ts,_,_,_,hr,h=>by have hlt:=h.lt;obtain ⟨v,vs1,d,ds1,a,b,rfl,rfl,rfl,h1,h2⟩:=trodAll_cons h;exact ⟨a,b,Below.trod hl (hr t (by simp)).1 (hr t (by simp)).2 h1 hb (λx hx=>hlt x (by simp [hx])),zl7 hl hb (λt ht=>hr t (by simp [ht])) h2,rfl⟩
end
open Go Go.RowKit Go.ChangeShapes Go.WideShapes
theorem zio {H:Type} {enc:TypeId×Value->H} {C:Checked} {os:Os} {f:FuncId} {fn:Func} {s:ChangeSpec} {tb:TypeId} {conds:List PathCond} {laid:List (String×DataW Unit)} (hno:(laid.all λx=>x.2.handleName?.isNone)=true) (own:ownKnob C.prog.godebug=none) (started:os.Started) (noInit:C.prog.inits.idxOf? f=none) (hfn:C.prog.funcs[f]?=some fn)
  (witness:∃ (w:World) (tape:Tape) (i:Input),w.os=os/\(w.forCall tape i).Shaped C.prog/\i.vars= []/\Input.okWide C.prog (w.forCall tape i) .any w.heap.size f i/\
   ((s.pre enc C.prog fn conds false (w.forCall tape i).memory i.args/\laidMetH C.prog laid (w.forCall tape i).memory)/\sizedMet enc C.prog fn (OpenSpec.ofChange s) false (w.forCall tape i).memory i.args)/\({} :Assume).holds C.prog (lone (Frame.enter C.prog f i.args .normal) [] (w.forCall tape i)))
  (hvars:s.vars= []) (hspec:∀ds:List (DataW H),ds.length=fn.params.toList.length->s.fn H ds= { results:= [.lit (.bool true)],args:=ds })
  (hrt:fn.resultTypes= #[tb]) (htb:(ty C.prog tb).td= .bool)
  (hl:laidOutB C.prog=true) (hr:(fn.params.toList.all λt=>C.prog.readableRec t&&decide (t<C.prog.types.size))=true) (hp:fn.params.toList.all (plainTy C.prog 9)=true)
  (law:∀xss,DTys C.prog fn.params.toList xss->ACall C.prog f 0 (zhH C.prog fn.params.toList xss) [] (λr _=>r= .d (.bool true))):
  ReturnsInHanded {} C os f .any (λw args=>(s.pre enc C.prog fn conds false w args/\laidMetH C.prog laid w)/\sizedMet enc C.prog fn (OpenSpec.ofChange s) false w args) (s.post enc C.prog fn false true false false):=by
 refine returnsInHanded_of_change_and (X:=λw _=>laidMetH C.prog laid w) (λ_ _ _ hh h=>by rw [MakeChecks.laidMetH_plain _ _ _ hno] at h ⊢;exact h.of_heap hh) own started noInit hfn witness ?_;intro W base args ds gs before hval hW hcnd _ _ _;have hW':=hW;obtain ⟨p,q,hA,hV,rfl,hfz,hnd⟩:=hW;rw [hvars] at hV
 have hV':gs= []/\q= []:=by
  cases gs with
  |nil=>exact ⟨rfl,hV⟩
  |cons a b=>exact hV.elim
 obtain ⟨rfl,rfl⟩:=hV';obtain ⟨_,_,_,hdl⟩:=zkO (r:= .any) (b:=base) hp (λj t v h1 h2=>hval j t v (by simpa using h1) (by simpa using h2)) hA;refine (zrM hp (λj t v h1 h2=>hval j t v (by simpa using h1) (by simpa using h2)) hA law).mono ?_;rintro e W' ⟨rfl,hb⟩;refine ⟨_,rfl,ds,[],p++ [],[],p,[],hW',?_,?_,?_,?_,λh=>by cases h⟩
 ·rw [hrt,List.append_nil,hspec ds hdl];refine ⟨[],[],⟨1,?_⟩,rfl,rfl⟩;have:=zfF htb;simp [DataW.trod,Value.cells,this]
 ·rw [List.append_nil,hspec ds hdl];exact zl7 hl hb (λt ht=>by have:=List.all_eq_true.1 hr t ht;simpa using this) hA
 ·rw [hvars,List.append_nil,hspec ds hdl];rfl
 ·refine World.keptBut_mono (λp' hp'=>?_) (hb.frame (λ_=>False));exact hp'.elim
open Go
attribute [go_sem] aop aop1 isVal zcL isX zao rowsK rowsT zfl zrow aval zbi dstOk known AS.ev AS.put lk cv AV.tag zbh zea zdq AS.esOf zg2 zaH zii zaI zg3 zeu avLen zdj AV.oneD AS.bnd AS.cur nilAV abin2 abin abinI abinS aun zfi aeff fillL putL hget hset fresh top AV.cells AV.cellsOk AV.leaf AV.toD toDs zj3 apart psize TD.agg ares one RetK thenK zo1 za8 cxOf
@[go_sem] theorem zx6 (k:IntKind) (n:Int):alike (.int k) (.int k n)=true:=by simp [alike]
@[go_sem] theorem zx7 (l:List UInt8):alike .str (.str l)=true:=rfl
@[go_sem] theorem zxU (b:Bool):alike .bool (.bool b)=true:=rfl
theorem zl8 {α β:Type} (g:α->β) (l:List α):(l.map g).take l.length=l.map g:=List.take_of_length_le (by simp)
theorem zgz {α:Type} (l:List α):l.take l.length=l:=List.take_of_length_le (Nat.le_refl _)
@[go_sem] theorem isB_bool (b:Bool):(AV.d (.bool b)).isB=true:=rfl
@[go_sem] theorem toB_bool (b:Bool):(AV.d (.bool b)).toB=b:=rfl
theorem zx8 (a b:Bool):(bif a then true else b)=(a||b):=by cases a<;>rfl
theorem zwH (a b:Bool):(bif a then b else false)=(a&&b):=by cases a<;>rfl
attribute [go_sem] cond_true cond_false zx8 zwH List.map_cons List.map_nil List.zip_cons_cons List.zip_nil_left List.cons_append List.nil_append List.append_nil List.all_cons List.all_nil List.length_cons List.length_nil List.getElem?_cons_zero List.getElem?_cons_succ List.getD_cons_zero List.getD_cons_succ List.drop_zero List.drop_succ_cons List.take_zero List.take_succ_cons List.take_nil List.drop_nil List.set_cons_zero List.set_cons_succ List.replicate_zero List.replicate_succ List.flatten_cons List.flatten_nil List.range_succ List.size_toArray Option.bind_some Option.map_some Option.getD_some Bool.and_true Bool.true_and Bool.and_self Bool.false_and Bool.and_false true_implies false_implies and_true true_and and_self if_true if_false Option.some.injEq Prod.mk.injEq beq_self_eq_true beq_true beq_false ne_eq not_false_eq_true not_true_eq_false reduceCtorEq Option.isSome_some Option.isSome_none List.getElem?_toArray Option.map_none Option.bind_none Option.getD_none Bool.not_true Bool.not_false Bool.false_eq_true Bool.or_true Bool.true_or Bool.or_false Bool.false_or decide_true decide_false imp_self implies_true Bool.not_eq_true' Bool.not_eq_false'
end Go.Aw
