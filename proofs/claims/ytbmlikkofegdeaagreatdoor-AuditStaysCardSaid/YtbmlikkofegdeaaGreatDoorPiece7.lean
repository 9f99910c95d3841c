/-
  Parts of the proof: AwEffOp, AwRun (short names; the readable texts lie in the repo, under wip).
-/
import Derived.Test.YtbmlikkofegdeaaGreatDoorPiece6
import Derived.CallsIn
set_option maxRecDepth 100000
set_option maxHeartbeats 2000000
set_option linter.unusedSimpArgs false
set_option linter.unusedVariables false
namespace Go.Aw
open Go
def aeff (fl:Nat) (P:Program) (s:AS) (op:Op) (K:AV→AHeap→Prop):Prop:=
 match op with
 | .alloc t=>zZ P t=true∧K (.pt (z6 P 12 t) (fresh fl s.h) 0) ((fresh fl s.h,.vr (z6 P 12 t) t (zT P 12 t))::s.h)
 | .box t x=>(s.ev x).1=true∧((s.ev x).2.tag P t).cellsOk=true∧K (.pt (z6 P 12 t) (fresh fl s.h) 0) ((fresh fl s.h,.vr (z6 P 12 t) t ((s.ev x).2.tag P t).cells)::s.h)
 | .build t parts=>
  zZ P t=true∧(parts.toList.all fun p=>(s.ev p.2).1)=true∧
  (match (ty P t).td with
  | .struct fs=>
   (fs.all fun f=>(ty P f.2).td≠ .other)=true∧
   let q:=fillL (fun i=>(fs[i]?).map fun f=>(f.1,(ty P f.2).size)) (zT P 12 t) (parts.toList.map fun p=>(p.1,((s.ev p.2).2.tag P ((fs.getD p.1 (0,0)).2))))
   q.1∧K (.agg q.2) s.h
  | .arr _ e=>
   (ty P e).td≠ .other∧
   let q:=fillL (fun i=>some (i*(ty P e).size,(ty P e).size)) (zT P 12 t) (parts.toList.map fun p=>(p.1,((s.ev p.2).2.tag P e)))
   q.1∧K (.agg q.2) s.h
  |_=>False)
 | .buildSlice t len parts=>
  (match (ty P t).td with
  | .slice e=>
   zZ P e=true∧(parts.toList.all fun p=>(s.ev p.2).1)=true∧(ty P e).td≠ .other∧(ty P e).size≠0∧len*(ty P e).size≤16777216∧
   let q:=fillL (fun i=>some (i*(ty P e).size,(ty P e).size)) ((List.replicate len (zT P 12 e)).flatten) (parts.toList.map fun p=>(p.1,((s.ev p.2).2.tag P e)))
   let rows:=(List.range len).map fun i=>(q.2.drop (i*(ty P e).size)).take (ty P e).size
   q.1∧(match zj3 rows with
    |some ds=>K (.osl (fresh fl s.h) (ty P e).size len 0 len) ((fresh fl s.h,.arr (ty P e).size ds)::s.h)
    |none=>0<len∧K (.asl (ty P e).size rows) s.h)
  |_=>False)
 | .store t x y=>
  (s.ev x).1=true∧(s.ev y).1=true∧(ty P t).td≠ .other∧
  let v:=(s.ev y).2.tag P t
  v.cellsOk=true∧v.cells.length=(ty P t).size∧
  (match (s.ev x).2 with
  | .vp i o=>(match hget s.h i with
   |some (.var cs)=>o+(ty P t).size≤cs.length∧K .any (hset s.h i (.var (putL cs o v.cells)))
   |_=>False)
  | .tp i o=>(match hget s.h i with
   |some (.tvar tt cs)=>o+(ty P t).size≤cs.length∧K .any (hset s.h i (.tvar tt (putL cs o v.cells)))
   |_=>False)
  | .ap i n k r o=>(match hget s.h i with
   |some (.arr k' xs)=>k'=k∧xs.length=n∧r<n∧o+(ty P t).size≤k∧
    (match toDs v.cells with
    |some ds=>K .any (hset s.h i (.arr k' (xs.set r (putL (xs.getD r []) o ds))))
    |none=>False)
   |_=>False)
  |_=>False)
 |op=>zao fl P s op K
section
variable {P : Program} {W : World} {E : Env} {s : AS} {a : Act} {cx : Cx} {K : AV -> AHeap -> Prop}
theorem zg7 {t:TypeId} (hz:zZ P t=true):∃z,(∀w,(zeroValue t).run P w= .ok z w)/\Reps W E s.h (zT P 12 t) z.cells.toList/\z.cells.size=(ty P t).size:=by obtain ⟨i,z,h1,h2,h3,h4,h5,h6⟩:=zih hz;exact ⟨z,λw=>zgv h1 h2 w,zig h3,by rw [h5,h6]⟩
theorem zl5 {k:Nat} :∀ {rows:List (List AV)} {ds:List (List D)} {vs:List Value},RepARows W E s.h k rows vs->zj3 rows=some ds->RepRows W (Xs E s.h) k ds vs/\ds.length=rows.length
 | [],ds,vs,_,hd=>by simp only [zj3,Option.some.injEq] at hd;subst hd;simp [RepRows]
 | r::rows,ds,vs,hr,hd=>by
  simp only [zj3] at hd;split at hd
  ·rename_i x xs h1 h2;cases hd;simp only [RepARows] at hr;obtain ⟨h3,h4,h5⟩:=hr;obtain ⟨h6,h7⟩:=zl5 h5 h2;have h8:=Reps.toDs h4 h1;simp only [RepRows];refine ⟨⟨?_,h8,h6⟩,by simp [h7]⟩;rw [<-RepDs.length h8,Reps.length h4,h3]
  ·cases hd
theorem zb3 {α:Type} {l:List α} {k:Nat} (hk:l.length=k):∀ (n i:Nat),i<n*k->((List.replicate n l).flatten)[i]?=l[i % k]?
 |0,i,hi=>by simp at hi
 | n+1,i,hi=>by
  rw [Nat.succ_mul] at hi;simp only [List.replicate_succ,List.flatten_cons];by_cases h1:i<k
  ·rw [List.getElem?_append_left (by omega),Nat.mod_eq_of_lt h1]
  ·rw [List.getElem?_append_right (by omega),hk,zb3 hk n (i - k) (by omega)];rw [<-Nat.mod_eq_sub_mod (by omega)]
theorem zrK {t:TypeId} {z:Value} {k n:Nat} (h2:Reps W E s.h (zT P 12 t) z.cells.toList) (h3:z.cells.size=k):
  Reps W E s.h ((List.replicate n (zT P 12 t)).flatten) ((Array.range (n*k)).map (z.cells[· % z.cells.size]!)).toList:=by
 have hl:=Reps.length h2;have hz:(zT P 12 t).length=k:=by rw [<-hl,<-h3];simp
 refine Reps.of_get (by simp [hz]) (λj hj=>?_);have hj':j<n*k:=by simpa [hz] using hj
 have hk:0<k:=by
  rcases Nat.eq_zero_or_pos k with h0|h0
  ·subst h0;simp at hj'
  ·exact h0
 have hlt:j % k<k:=Nat.mod_lt _ hk;obtain ⟨v,hv,hr⟩:=Reps.get h2 (getD_some (d:=AV.any) (show j % k<(zT P 12 t).length by omega));refine ⟨v,?_,?_⟩
 ·have hv':z.cells[j % k]?=some v:=by rw [<-Array.getElem?_toList];exact hv
  simp only [Array.toList_map,Array.toList_range,List.getElem?_map,List.getElem?_range hj',Option.map_some,Option.some.injEq,h3];rw [getElem!_def,hv']
 ·rw [List.getD_eq_getElem?_getD,zb3 hz n j hj',<-List.getD_eq_getElem?_getD];exact hr
theorem zrL {k:Nat} (hk:k≠0):∀ (n o:Nat) {cs:List AV} {vs:List Value},Reps W E s.h cs vs->cs.length=(o+n)*k->
  RepARows W E s.h k ((List.range' o n).map λi=>(cs.drop (i*k)).take k) (vs.drop (o*k))
 |0,o,cs,vs,_,_=>by simp [RepARows]
 |n+1,o,cs,vs,hr,hl=>by
  simp only [List.range'_succ,List.map_cons,RepARows];have hlen:cs.length=o*k+n*k+k:=by rw [hl,Nat.add_mul,Nat.succ_mul];omega
  refine ⟨by simp;omega,(hr.drop _).take _,?_⟩;rw [List.drop_drop,show o*k+k=(o+1)*k by rw [Nat.succ_mul]];exact zrL hk n (o+1) hr (by rw [hl];congr 1;omega)
theorem zkN (hs:Slots W E s a) (tagf:Nat->TypeId) {parts:Array (Nat×Operand)} (hg:(parts.toList.all λp=>(s.ev p.2).1)=true):
  (parts.toList.map λp=>(p.1,(s.ev p.2).2.tag P (tagf p.1))).length=((parts.map λ(i,x)=>(i,a.eval x)).toList).length/\
  ∀ (j i:Nat) (x:AV),(parts.toList.map λp=>(p.1,(s.ev p.2).2.tag P (tagf p.1)))[j]?=some (i,x)->∃v,((parts.map λ(i,x)=>(i,a.eval x)).toList)[j]?=some (i,v)/\Rep W E s.h x v:=by refine ⟨by simp,λj i x hj=>?_⟩;simp only [List.getElem?_map,Option.map_eq_some_iff,Prod.mk.injEq] at hj;obtain ⟨p,hp,rfl,rfl⟩:=hj;have hm:p∈parts.toList:=List.mem_of_getElem? hp;have:=List.all_eq_true.1 hg p hm;exact ⟨a.eval p.2,by simp [hp],Rep.tag (ev_ok hs p.2 this)⟩
theorem zwE (hs:Sat cx E s a W) (o:Oper) (h:aeff cx.fl P s o.op K):Does P (execOp a.eval o) W (zg5 cx E s a W K):=by
 obtain ⟨dst,op,ot,pos,after,guard⟩:=o
 dsimp only at h
 unfold aeff at h
 split at h
 ·-- alloc
  rename_i t
  obtain ⟨hz,hk⟩:=h
  obtain ⟨z,h1,h2,h3⟩:=zg7 (W:=W) (E:=E) (s:=s) hz
  obtain ⟨q1,q2,q3⟩:=zj2 hs h2 (z6 P 12 t) t
  refine .inl ⟨.pointer (some ⟨W.heap.size,0,none⟩),W.alloc (.cells z.cells t),?_,_,_,_,hk,q1,q2,q3⟩
  simp [execOp,Instr.alloc,h1,newVar,newRow]
 ·-- box
  rename_i t x
  obtain ⟨hg,hc,hk⟩:=h
  have hx:Rep W E s.h ((s.ev x).2.tag P t) (a.eval x):=Rep.tag (ev_ok hs.slots x hg)
  obtain ⟨h2,_⟩:=hx.cells hc
  obtain ⟨q1,q2,q3⟩:=zj2 hs h2 (z6 P 12 t) t
  refine .inl ⟨.pointer (some ⟨W.heap.size,0,none⟩),W.alloc (.cells (a.eval x).cells t),?_,_,_,_,hk,q1,q2,q3⟩
  simp [execOp,Instr.box,newVar,newRow]
 ·-- build
  rename_i t parts
  obtain ⟨hz,hg,h⟩:=h
  obtain ⟨z,h1,h2,h3⟩:=zg7 (W:=W) (E:=E) (s:=s) hz
  split at h
  ·rename_i fs ht
   obtain ⟨hfs,hq,hk⟩:=h
   obtain ⟨gs,hu,hgs,_⟩:=zes ht
   have hmap:∀w,(gs.mapM fun (f:Field)=>do pure (f.offset,← sizeOf f.type)).run P w= .ok (gs.map fun (f:Field)=>(f.offset,(ty P f.type).size)) w:=by
    intro w
    have:∀ (l:List Field),(∀f∈l,(ty P f.type).td≠ .other)→∀w,(l.mapM fun (f:Field)=>do pure (f.offset,← sizeOf f.type):Sem (List (Nat×Nat))).run P w= .ok (l.map fun (f:Field)=>(f.offset,(ty P f.type).size)) w:=by
     intro l
     induction l with
     |nil=>intro _ w;simp
     |cons f l ih=>
      intro hl w
      obtain ⟨d,hd⟩:=zb9 (hl f (by simp))
      simp only [List.mapM_cons,Sem.run_bind,zI hd,Result.andThen_ok,Sem.run_pure,ih (fun g hg=>hl g (by simp [hg])),List.map_cons]
    rw [Array.mapM_eq_mapM_toList]
    simp only [Sem.run_map]
    rw [this gs.toList (fun f hf=>by
     have:=List.all_eq_true.1 hfs (f.offset,f.type) (by rw [← hgs];exact List.mem_map_of_mem hf)
     simpa using this)]
    simp only [Result.andThen_ok]
    rw [← Array.toList_map]
   obtain ⟨c',g1,g2⟩:=zkK (pl:=fun i=>(fs[i]?).map fun f=>(f.1,(ty P f.2).size)) _ _ _ z.cells hq h2 (zkN (P:=P) hs.slots (fun i=>(fs.getD i (0,0)).2) hg)
   have hpl:(fun (i:Nat)=>(fs[i]?).map fun (f:Nat×Nat)=>(f.1,(ty P f.2).size))=(fun i=>(gs.map fun (f:Field)=>(f.offset,(ty P f.type).size))[i]?):=by
    funext i
    rw [← hgs]
    simp only [List.getElem?_map,Array.getElem?_map,Option.map_map,Array.getElem?_toList]
    rfl
   rw [hpl] at g1
   refine .inl ⟨.agg c',W,?_,E,s.h,_,hk,hs,Evo.refl _ _ _ _,?_⟩
   ·simp only [execOp,Instr.build,Sem.run_bind,h1,Result.andThen_ok,run_underlying hu,hmap,g1,Sem.run_pure]
   ·simp only [Rep];exact ⟨c',rfl,g2⟩
  ·rename_i n e ht
   obtain ⟨he,hq,hk⟩:=h
   obtain ⟨de,hde⟩:=zb9 he
   obtain ⟨c',g1,g2⟩:=zkK (pl:=fun i=>some (i*(ty P e).size,(ty P e).size)) _ _ _ z.cells hq h2 (zkN (P:=P) hs.slots (fun _=>e) hg)
   refine .inl ⟨.agg c',W,?_,E,s.h,_,hk,hs,Evo.refl _ _ _ _,?_⟩
   ·simp only [execOp,Instr.build,Sem.run_bind,h1,Result.andThen_ok,run_underlying (zdM ht),zI hde,g1,Sem.run_pure]
   ·simp only [Rep];exact ⟨c',rfl,g2⟩
  ·exact h.elim
 ·-- buildSlice
  rename_i t len parts
  split at h
  ·rename_i e ht
   obtain ⟨hz,hg,he,hk0,hsm,hq,hk⟩:=h
   obtain ⟨z,h1,h2,h3⟩:=zg7 (W:=W) (E:=E) (s:=s) hz
   obtain ⟨de,hde⟩:=zb9 he
   have hk1:z.cells.size=(ty P e).size:=h3
   have hz0:=zrK (n:=len) h2 hk1
   obtain ⟨c',g1,g2⟩:=zkK (pl:=fun i=>some (i*(ty P e).size,(ty P e).size)) _ _ _ _ hq hz0 (zkN (P:=P) hs.slots (fun _=>e) hg)
   have hzl:(zT P 12 e).length=(ty P e).size:=by have:=Reps.length h2;simp at this;omega
   have hfl:∀ (pl:Nat→Option (Nat×Nat)) (ps:List (Nat×AV)) (cs:List AV),(fillL pl cs ps).2.length=cs.length:=by
    intro pl ps
    induction ps with
    |nil=>intro cs;rfl
    |cons p ps ih=>
     intro cs
     obtain ⟨i,v⟩:=p
     simp only [fillL]
     cases pl i with
     |none=>rfl
     |some q=>simp only;rw [ih,zdO]
   have hrows:=zrL (W:=W) (E:=E) (s:=s) hk0 len 0 g2 (by rw [hfl];simp [hzl])
   rw [← List.range_eq_range',Nat.zero_mul,List.drop_zero] at hrows
   have hcl:c'.size=len*(ty P e).size:=by have:=Reps.length g2;rw [hfl] at this;simp [hzl] at this;exact this
   have hrun:(execOp a.eval ⟨dst,.buildSlice t len parts,ot,pos,after,guard⟩).run P W= .ok (.value (.slice (some ⟨W.heap.size,0,none⟩) len len)) (W.alloc (.cells c' e)):=by
    have hn:¬len*(ty P e).size>2 ^ 24:=by omega
    have g1':Instr.fill (fun i=>some (i*(ty P e).size,(ty P e).size)) ((Array.range (len*(ty P e).size)).map ((if len*(ty P e).size=0 then #[] else z.cells)[· % (if len*(ty P e).size=0 then #[] else z.cells).size]!)) (parts.map fun (i,x)=>(i,a.eval x)).toList=some c':=by
     rw [← g1]
     congr 1
     by_cases h0:len*(ty P e).size=0
     ·simp [h0]
     ·simp [h0]
    simp only [execOp,Instr.buildSlice,Sem.run_bind,run_underlying (zO ht),zI hde,Result.andThen_ok,Sem.run_ite,hn,if_false,Sem.run_pure]
    by_cases h0:len*(ty P e).size=0
    ·simp only [h0,if_true] at g1' ⊢
     simp only [Sem.run_pure,Result.andThen_ok,g1',newRow,Sem.run_bind,run_newObj,World.alloc_eq]
    ·simp only [h0,if_false] at g1' ⊢
     simp only [Sem.run_bind,h1,Sem.run_pure,Result.andThen_ok,g1',newRow,run_newObj,World.alloc_eq]
   split at hk
   ·rename_i ds hds
    obtain ⟨r1,r2⟩:=zl5 hrows hds
    have r2':ds.length=len:=by simpa using r2
    obtain ⟨q1,q2,q3⟩:=zgi hs r1 (cap:=len) (by omega) hcl e _ rfl
    rw [r2'] at q3
    exact .inl ⟨_,_,hrun,_,_,_,hk,q1,q2,q3⟩
   ·obtain ⟨h0,hk⟩:=hk
    obtain ⟨q1,q2,q3⟩:=zl1 hs (.cells c' e)
    refine .inl ⟨_,_,hrun,E,s.h,_,hk,q1,q2,?_⟩
    simp only [Rep]
    refine ⟨⟨W.heap.size,0,none⟩,len,c',e,(0,0),by simp,rfl,by simp,?_,zdb _ _,?_⟩
    ·rintro (hx|hx|hx)
     ·have:=(hs.hp.own _ hx).1;simp at this
     ·have:=hs.hp.mlt _ hx;simp at this
     ·have:=hs.hp.nlt _ hx;simp at this
    ·rw [List.drop_zero]
     refine RepARows.step (fun _ _ hx=>hx) (fun b hb _=>?_) _ _ _ (fun j _=>GoesOn.refl E s.h j) hrows
     show (W.heap.push _)[b]?=_
     rw [Array.getElem?_push,if_neg (by omega)]
  ·exact h.elim
 ·-- store
  rename_i t x y
  obtain ⟨hgx,hgy,ht,hc,hsz,h⟩:=h
  have hx:=ev_ok hs.slots x hgx
  have hy:Rep W E s.h ((s.ev y).2.tag P t) (a.eval y):=Rep.tag (ev_ok hs.slots y hgy)
  obtain ⟨hcs,h1c⟩:=hy.cells hc
  have hvs:(a.eval y).cells.size=(ty P t).size:=by
   have:=Reps.length hcs
   simp at this;omega
  split at h
  ·rename_i i o hxe
   rw [hxe] at hx
   split at h
   ·rename_i cs hi
    obtain ⟨hl,hk⟩:=h
    simp only [Rep] at hx
    obtain ⟨b,cs',hi',hb,hv⟩:=hx
    rw [hi] at hi';cases hi'
    obtain ⟨b',c,T,fz,g1,g2,g3,g4⟩:=hs.hp.var hi
    rw [hb] at g1;cases g1
    obtain ⟨q1,q2⟩:=zwA hs hi hcs hb g2 (o:=o)
    have hcl:=Reps.length g3
    refine .inr ⟨_,?_,E,_,.any,hk,q1,q2,by simp [Rep]⟩
    simp only [execOp,hv,Instr.storeAt,Instr.sureAddr,Sem.run_bind,Sem.run_pure,Result.andThen_ok]
    rw [zfj ht g2 g4 hvs (by simp at hcl;omega) h1c]
    rfl
   ·exact h.elim
  ·rename_i i o hxe
   rw [hxe] at hx
   split at h
   ·rename_i tt cs hi
    obtain ⟨hl,hk⟩:=h
    simp only [Rep] at hx
    obtain ⟨b,t',cs',hi',hb,hv⟩:=hx
    rw [hi] at hi';cases hi'
    obtain ⟨b',c,T,fz,g1,g2,g3,g4,g5⟩:=hs.hp.tvar hi
    rw [hb] at g1;cases g1
    obtain ⟨q1,q2⟩:=zuj hs hi hcs hb g2 (o:=o)
    have hcl:=Reps.length g3
    refine .inr ⟨_,?_,E,_,.any,hk,q1,q2,by simp [Rep]⟩
    simp only [execOp,hv,Instr.storeAt,Instr.sureAddr,Sem.run_bind,Sem.run_pure,Result.andThen_ok]
    rw [zfj ht g2 g4 hvs (by simp at hcl;omega) h1c]
    rfl
   ·exact h.elim
  ·rename_i i n k r o hxe
   rw [hxe] at hx
   split at h
   ·rename_i k' xs hi
    obtain ⟨rfl,hn,hr,hl,h⟩:=h
    split at h
    ·rename_i ds hds
     simp only [Rep] at hx
     obtain ⟨-,xs',hi',_,hv⟩:=hx
     rw [hi] at hi';cases hi'
     obtain ⟨b,hb,hv⟩:=hv hn
     have hob:=hs.hp.heap i _ hi
     simp only [RepObj] at hob
     rcases hob with ⟨h0,_⟩|⟨b',c,T,fz,g1,g2,g3,g4,g5,g6⟩
     ·rw [h0] at hb;cases hb
     rw [hb] at g1;cases g1
     have hul:(a.eval y).cells.toList.length=(ty P t).size:=by simpa using hvs
     obtain ⟨q1,q2⟩:=znw hs hi (Reps.toDs hcs hds) (r:=r) (o:=o) (by omega) (by omega) hb g2
     have hrow:=RepRows.length_le g5
     refine .inr ⟨_,?_,E,_,.any,h,q1,q2,by simp [Rep]⟩
     simp only [execOp,hv,Instr.storeAt,Instr.sureAddr,Sem.run_bind,Sem.run_pure,Result.andThen_ok]
     have hrk:r*k'+k'≤xs.length*k':=by
      rw [← Nat.succ_mul];exact Nat.mul_le_mul_right _ (by omega)
     rw [zfj ht g2 g6 hvs (by simp at hrow;omega) h1c]
     rfl
    ·exact h.elim
   ·exact h.elim
  ·exact h.elim
 ·exact zrJ hs _ h
end
open Go
def zgy (P:Program) (f:FuncId):Prop:=∀args w,(callFunc f args).run P w= .ok (.enter f args) w
structure EvoC (fl:Nat) (E:Env) (h:AHeap) (w:World) (E':Env) (h':AHeap) (w':World):Prop where
 os:w'.os=w.os
 tape:w'.tape=w.tape
 output:w'.output=w.output
 size:w.heap.size<=w'.heap.size
 keep:∀b,b<w.heap.size->¬Own E h b->w'.heap[b]?=w.heap[b]?
 own:∀b,Own E' h' b->Own E h b\/w.heap.size<=b
 m:E'.M=E.M
 n:E'.N=E.N
 go:∀i,i<fl->(hget h' i).isSome->(hget h i).isSome/\GoesOn E h E' h' i
def ACall (P:Program) (f:FuncId) (fl:Nat) (args:List AV) (h:AHeap) (K:AV->AHeap->Prop):Prop:=
 zgy P f/\∀E w (vs:Array Value),SatH E h w->Reps w E h args vs.toList->
  Calls P f vs w (λe w'=>∃v E' r h',e= .returned v/\K r h'/\SatH E' h' w'/\Rep w' E' h' r v/\EvoC fl E h w E' h' w')
def ACallAt (P:Program) (fl:Nat) (f:FuncId) (args:List AV) (h:AHeap) (K:AV->AHeap->Prop):Prop:=
 zgy P f/\∀E w (vs:Array Value),SatH E h w->Reps w E h args vs.toList->
  Calls P f vs w (λe w'=>∃v E' r h',e= .returned v/\K r h'/\SatH E' h' w'/\Rep w' E' h' r v/\EvoC fl E h w E' h' w'/\
   (∀x y,Rep w E h x y->Rep w' E' h' x y))
def zbh (P:Program) (s:AS) (c:Call):Option (FuncId×List AV×Prop):=
 match c.callee with
 | .value f=>match s.ev f with
  |(g,.fn (.func n) fs cs)=>some (n,fs++((c.args.toList.zip (c.argTypes.toList++List.replicate c.args.size 0)).map λp=>(s.ev p.1).2.tag P p.2)++cs,g=true/\(c.args.toList.all λx=>(s.ev x).1)=true)
  |_=>none
 |_=>none
def zcL:Op->Bool
 | .binOp .. | .unOp .. | .makeInterface .. | .makeFunc .. | .field .. | .fieldAddr .. | .indexAddr .. | .index .. | .slice .. | .load .. | .nilCheck .. | .extract .. | .lookup .. =>true
 | .convert .. =>true
 | .call c=>match c.callee with
  | .builtin .len=>true
  | .builtin .min=>true
  | .builtin .max=>true
  |_=>false
 |_=>false
def isVal (P:Program) (op:Op):Bool:=zcL op&& !isX P op
def known (s:AS):Operand->Bool
 | .tmp t=>(lk s.t t).isSome
 |_=>true
def dstOk (nt:Nat):Option Nat->Prop
 |some d=>d<nt
 |none=>True
def AV.isB:AV->Bool
 | .d (.bool _)=>true
 |_=>false
def AV.toB:AV->Bool
 | .d (.bool x)=>x
 |_=>false
theorem AV.isB_eq {v:AV} (h:v.isB=true):v= .d (.bool v.toB):=by
 unfold AV.isB at h;split at h
 ·rfl
 ·cases h
def aop1 (cx:Cx) (o:Oper) (K:AS->Prop) (s:AS):Prop:=
 match o.op with
 | .move x=>known s x=true/\K (s.put o.dst (s.ev x).1 ((s.ev x).2.tag cx.P o.type))
 | .assign x=>known s x=true/\K (s.put o.dst (s.ev x).1 ((s.ev x).2.tag cx.P o.type))
 | .pick c a b=>(match s.ev c with
  |(gc,.d (.bool c))=>gc=true/\(c=true->(s.ev a).1=true/\(s.ev a).2.isB=true)/\(c=false->(s.ev b).1=true/\(s.ev b).2.isB=true)/\K (s.put o.dst true (.d (.bool (bif c then (s.ev a).2.toB else (s.ev b).2.toB))))
  |_=>False)
 | .call c=>if isVal cx.P (.call c) then (aval cx.P s (.call c)).1/\K (s.put o.dst true (aval cx.P s (.call c)).2) else
  (match zbh cx.P s c with
  |some (f,args,vc)=>vc/\ACallAt cx.P cx.fl f args s.h (λr h'=>K ({ s with h:=h' }.put o.dst true r))
  |none=>aeff cx.fl cx.P s (.call c) (λr h'=>K ({ s with h:=h' }.put o.dst true r)))
 |op=>if isVal cx.P op then (aval cx.P s op).1/\K (s.put o.dst true (aval cx.P s op).2)
  else aeff cx.fl cx.P s op (λr h'=>K ({ s with h:=h' }.put o.dst true r))
def aop (cx:Cx) (G:Bool) (o:Oper) (K:AS->Prop) (s:AS):Prop:=
 dstOk cx.nt o.dst/\
 match o.op with
 | .move x=>known s x=true/\K (s.put o.dst (G&&(s.ev x).1) ((s.ev x).2.tag cx.P o.type))
 | .assign x=>known s x=true/\K (s.put o.dst (G&&(s.ev x).1) ((s.ev x).2.tag cx.P o.type))
 | .pick c a b=>(match s.ev c with
  |(gc,.d (.bool c))=>(G=true->gc=true/\(c=true->(s.ev a).1=true/\(s.ev a).2.isB=true)/\(c=false->(s.ev b).1=true/\(s.ev b).2.isB=true))/\K (s.put o.dst G (.d (.bool (bif c then (s.ev a).2.toB else (s.ev b).2.toB))))
  |_=>False)
 |op=>if isVal cx.P op then (G=true->(aval cx.P s op).1)/\K (s.put o.dst G (aval cx.P s op).2)
  else (G=true->aop1 cx o K s)/\(G=false->K (s.put o.dst false .any))
def zbi (s:AS) (all:Array Oper):Option (Nat×Bool)->Option Bool
 |none=>some true
 | some (j,want)=>match (all[j]?).bind (·.dst) with
  |some d=>match lk s.t d with
   |some (g,.d (.bool b))=>some (g&&(b==want))
   |some (false,_)=>some false
   |_=>none
  |none=>none
section
variable {cx : Cx} {E : Env} {s : AS} {a : Act} {w : World}
theorem zo9 {ro:Option Nat} {P:Program} {f:FuncId} {args:Array Value} {w:World} {R:Ending->World->Prop} (n:Nat) (h:Calls P f args w R):CallsIn { Fence.wide with round:=ro } n P f args w R:=callsIn_wide.2 h
theorem EvoC.evo {fl:Nat} {h h':AHeap} {E':Env} {w':World} (c:EvoC fl E h w E' h' w'):Evo fl E h w E' h' w':=
 ⟨c.os,c.tape,c.output,c.size,λb hb ho _=>c.keep b hb ho,c.own,λb hb=>by rwa [c.m],λb hb=> .inl (by rwa [<-c.m]),c.n,c.go⟩
theorem Sat.call {h':AHeap} {E':Env} {w':World} (hs:Sat cx E s a w) (hh:SatH E' h' w') (c:EvoC cx.fl E s.h w E' h' w') (hrep:∀x y,Rep w E s.h x y->Rep w' E' h' x y):Sat cx E' { s with h:=h' } a w' where
 slots:=λk g v hk=>by obtain ⟨x,h1,h2,h3⟩:=hs.slots k g v hk;exact ⟨x,h1,λe=>hrep _ _ (h2 e),h3⟩
 nt:=hs.nt
 hp:=hh
 base:=Nat.le_trans hs.base c.size
 marks:=hs.marks.step (λb _ hb=>by rwa [<-c.m]) (λr hr hm=>c.keep r (Array.getElem?_eq_some_iff.1 hr).1 (hs.hp.not_mark hr))
 ghost:=by rw [c.m,c.n];exact cx.stab _ _ _ _ _ _ _ (λb hb ho=>c.keep b hb (λh=>ho (.inl h))) (λb hb=>hb.elim (λhb=>(c.own b hb).imp .inl id) (λhb=> .inl (.inr hb))) (λb hb=>hb.elim (λh=>(hh.own b h).1) (λh=>Nat.lt_of_lt_of_le (hs.marks.lt h) c.size)) c.size c.tape c.os c.output hs.ghost
theorem Does.wpIn {o:Oper} {R:Value->World->Prop} {Q:Exit->Act->World->Prop} {next:Act->World->Prop} (hd:∀c,o.op≠ .defer c) (h:Does cx.P (execOp a.eval o) w R) (hn:∀v w',R v w'->next (a.put o.dst v) w'):
  o.wpIn cx.F 0 cx.P a w next Q:=by
 refine ⟨λ_ _=>trivial,?_⟩;rw [Oper.semAt_eq _ _ _ hd];rcases h with ⟨v,w',h1,h2⟩|⟨w',h1,h2⟩
 ·rw [h1];exact hn v w' h2
 ·rw [h1];exact hn undef w' h2
theorem zg8 {o:Oper} {K:AS→Prop} {Q:Exit→Act→World→Prop} (hs:Sat cx E s a w) (hd:dstOk cx.nt o.dst) (h:aop1 cx o K s):o.wpIn cx.F 0 cx.P a w (Reach cx E s.h w K) Q:=by
 have hdst:∀k,o.dst=some k→k<cx.nt:=fun k e=>by rw [e] at hd;exact hd
 have hval:(aval cx.P s o.op).1→K (s.put o.dst true (aval cx.P s o.op).2)→(∀c,o.op≠ .defer c)→o.wpIn cx.F 0 cx.P a w (Reach cx E s.h w K) Q:=by
  intro h1 h2 h3
  obtain ⟨v,hv,hr⟩:=znt hs.hp hs.slots o h1
  refine Does.wpIn h3 (R:=fun v' w'=>v'=v∧w'=w) (.inl ⟨v,w,hv,rfl,rfl⟩) ?_
  rintro v' w' ⟨rfl,rfl⟩
  exact ⟨E,_,h2,hs.put hdst (fun _=>hr) (fun e=>by cases e),by cases o.dst<;>exact Evo.refl _ _ _ _⟩
 have heff:aeff cx.fl cx.P s o.op (fun r h'=>K ({ s with h:=h' }.put o.dst true r))→(∀c,o.op≠ .defer c)→o.wpIn cx.F 0 cx.P a w (Reach cx E s.h w K) Q:=by
  intro h1 h3
  refine Does.wpIn h3 (zwE hs o h1) ?_
  rintro v w' ⟨E',h',x,hk,hs',he,hr⟩
  exact ⟨E',_,hk,hs'.put hdst (fun _=>hr) (fun e=>by cases e),by cases o.dst<;>exact he⟩
 have hmove:∀x,(execOp a.eval o=pure (.value (a.eval x)))→(∀c,o.op≠ .defer c)→(known s x=true∧K (s.put o.dst (s.ev x).1 ((s.ev x).2.tag cx.P o.type)))→o.wpIn cx.F 0 cx.P a w (Reach cx E s.h w K) Q:=by
  rintro x he h3 ⟨hkn,hk⟩
  refine Does.wpIn h3 (R:=fun v' w'=>v'=a.eval x∧w'=w) (.inl ⟨a.eval x,w,by rw [he];rfl,rfl,rfl⟩) ?_
  rintro v' w' ⟨rfl,rfl⟩
  refine ⟨E,_,hk,hs.put hdst (fun e=>Rep.tag (ev_ok hs.slots x e)) (fun e=>?_),by cases o.dst<;>exact Evo.refl _ _ _ _⟩
  cases x with
  | tmp t=>
   simp only [AS.ev] at e
   cases hl:lk s.t t with
   |none=>simp [known,hl] at hkn
   |some p=>
    obtain ⟨g,v⟩:=p
    simp only [hl,Option.getD_some] at e
    obtain ⟨y,hy,_,hu⟩:=hs.slots t g v hl
    simp only [Act.eval]
    rw [show a.tmps.getD t undef=y by simp [hy]]
    exact hu e
  |const v=>simp [AS.ev] at e
  |func f=>simp [AS.ev] at e
  |global g=>simp [AS.ev] at e
 obtain ⟨dst,op,ot,pos,after,guard⟩:=o
 unfold aop1 at h
 dsimp only at h hval heff hmove
 split at h
 ·exact hmove _ rfl (by simp) h
 ·exact hmove _ rfl (by simp) h
 ·rename_i c x y
  split at h
  ·rename_i gc c' ec
   obtain ⟨h1,h2,h3,h4⟩:=h
   obtain ⟨x',ex'⟩:∃x',(s.ev x).2.toB=x':=⟨_,rfl⟩
   obtain ⟨y',ey'⟩:∃y',(s.ev y).2.toB=y':=⟨_,rfl⟩
   rw [ex',ey'] at h4
   have hc:=ev_ok hs.slots c (by rw [ec];exact h1)
   rw [ec] at hc
   simp only [Rep,RepD] at hc
   have hv:∃v,(execOp a.eval ⟨dst,.pick c x y,ot,pos,after,guard⟩).run cx.P w= .ok (.value v) w∧v= .bool (bif c' then x' else y'):=by
    cases c' with
    |true=>
     have hx:=ev_ok hs.slots x (h2 rfl).1
     rw [AV.isB_eq (h2 rfl).2,ex'] at hx
     simp only [Rep,RepD] at hx
     exact ⟨a.eval x,by simp [execOp,hc,asBool],by simpa using hx⟩
    |false=>
     have hy:=ev_ok hs.slots y (h3 rfl).1
     rw [AV.isB_eq (h3 rfl).2,ey'] at hy
     simp only [Rep,RepD] at hy
     exact ⟨a.eval y,by simp [execOp,hc,asBool],by simpa using hy⟩
   obtain ⟨v,hv1,rfl⟩:=hv
   refine Does.wpIn (by simp) (R:=fun v' w'=>v'= .bool (bif c' then x' else y')∧w'=w) (.inl ⟨_,w,hv1,rfl,rfl⟩) ?_
   rintro v' w' ⟨rfl,rfl⟩
   exact ⟨E,_,h4,hs.put hdst (fun _=>by simp [Rep,RepD]) (fun e=>by cases e),by cases dst<;>exact Evo.refl _ _ _ _⟩
  ·exact h.elim
 ·rename_i c
  split at h
  ·exact hval h.1 h.2 (by simp)
  ·split at h
   ·rename_i f args vc hco
    obtain ⟨hvc,hen,hcall⟩:=h
    obtain ⟨callee,cargs,ctypes⟩:=c
    cases callee with
    |invoke r m=>simp [zbh] at hco
    |builtin b=>simp [zbh] at hco
    | value fo=>
     simp only [zbh] at hco
     split at hco
     case h_2=>cases hco
     case h_1 g n fs cs hef=>
      simp only [Option.some.injEq,Prod.mk.injEq] at hco
      obtain ⟨rfl,rfl,rfl⟩:=hco
      obtain ⟨hg,hall⟩:=hvc
      have hf:=ev_ok hs.slots fo (by rw [hef];exact hg)
      rw [hef] at hf
      simp only [Rep] at hf
      obtain ⟨pf,qc,hfv,hfs,hcs⟩:=hf
      have hargs:Reps w E s.h ((cargs.toList.zip (ctypes.toList++List.replicate cargs.size 0)).map fun p=>(s.ev p.1).2.tag cx.P p.2) (cargs.toList.map a.eval):=by
       have key:∀ (l:List Operand) (ts:List TypeId),l.length≤ts.length→(l.all fun x=>(s.ev x).1)=true→Reps w E s.h ((l.zip ts).map fun p=>(s.ev p.1).2.tag cx.P p.2) (l.map a.eval):=by
        intro l
        induction l with
        |nil=>intro ts _ _;simp [Reps]
        | cons x l ih=>
         intro ts hl ha
         cases ts with
         |nil=>simp at hl
         |cons t ts=>
          simp only [List.all_cons,Bool.and_eq_true] at ha
          simp only [List.zip_cons_cons,List.map_cons,Reps]
          exact ⟨_,_,rfl,Rep.tag (ev_ok hs.slots x ha.1),ih ts (by simpa using hl) ha.2⟩
       exact key _ _ (by simp) hall
      have hvs:Reps w E s.h (fs++((cargs.toList.zip (ctypes.toList++List.replicate cargs.size 0)).map fun p=>(s.ev p.1).2.tag cx.P p.2)++cs) ((pf++cargs.map a.eval)++qc).toList:=by
       simp only [Array.toList_append,Array.toList_map]
       exact (hfs.append hargs).append hcs
      refine ⟨fun _ _=>trivial,?_⟩
      rw [Oper.semAt_eq _ _ _ (by simp)]
      have hrun:(execOp a.eval ⟨dst,.call ⟨.value fo,cargs,ctypes⟩,ot,pos,after,guard⟩).run cx.P w= .ok (.enter n (pf++cargs.map a.eval++qc)) w:=by
       simp only [execOp,resolve,hfv,Deferred.ofValue,Sem.run_bind,Sem.run_pure,Result.andThen_ok,invoke]
       exact hen _ _
      rw [hrun]
      simp only [Oper.uponIn_enter]
      refine ⟨(fun h=>by cases h),?_⟩
      refine (zo9 _ (hcall E w _ hs.hp hvs)).mono ?_
      rintro e w' ⟨v,E',r,h',rfl,hk,hh,hr,hev,hrep⟩
      exact ⟨E',_,hk,(hs.call hh hev hrep).put hdst (fun _=>hr) (fun e=>by cases e),by cases dst<;>exact hev.evo⟩
   ·exact heff h (by simp)
 ·rename_i hn1 hn2 hn3 hn4
  have hdf:∀c,op≠ .defer c:=by
   rintro c rfl
   simp [isVal,zcL,aeff,zao] at h
  split at h
  ·exact hval h.1 h.2 hdf
  ·exact heff h hdf
theorem zik {P:Program} {op:Op} (h:isVal P op=true):∀c,op≠ .defer c:=by rintro c rfl;simp [isVal,zcL] at h
theorem zj9 {all:Array Oper} {o:Oper} {G:Bool} {K:AS→Prop} {Q:Exit→Act→World→Prop} (hs:Sat cx E s a w) (hg:zbi s all o.guard=some G) (h:aop cx G o K s):
  if Region.wanted o (yielded all a.tmps) then o.wpIn cx.F 0 cx.P a w (Reach cx E s.h w K) Q else (∀f,o.about cx.P w a.eval=some f→cx.F.fn f)∧Reach cx E s.h w K (a.put o.dst undef) w:=by
 obtain ⟨hd,h⟩:=h
 have hw:Region.wanted o (yielded all a.tmps)=G:=by
  unfold zbi at hg
  unfold Region.wanted
  cases ho:o.guard with
  |none=>simp [ho] at hg;simp [hg]
  | some p=>
   obtain ⟨j,want⟩:=p
   simp only [ho] at hg ⊢
   unfold yielded
   cases hj:(all[j]?).bind (·.dst) with
   |none=>simp [hj] at hg
   | some d=>
    simp only [hj] at hg
    cases hl:lk s.t d with
    |none=>simp [hl] at hg
    | some q=>
     obtain ⟨g,v⟩:=q
     obtain ⟨x,hx,hr,hu⟩:=hs.slots d g v hl
     simp only [hl] at hg
     simp only [Option.bind_some,hx]
     split at hg
     ·rename_i g' b e
      simp only [Option.some.injEq,Prod.mk.injEq] at e hg
      obtain ⟨rfl,rfl⟩:=e
      subst hg
      cases g with
      |true=>
       have:=hr rfl
       simp only [Rep,RepD] at this
       subst this
       cases b<;>cases want<;>rfl
      |false=>
       have:=hu rfl
       subst this
       simp [undef]
     ·rename_i v' e
      simp only [Option.some.injEq,Prod.mk.injEq] at e hg
      obtain ⟨rfl,rfl⟩:=e
      subst hg
      have:=hu rfl
      subst this
      simp [undef]
     ·cases hg
 rw [hw]
 have hev0:∀ (x:AV) (g:Bool),Evo cx.fl E s.h w E (s.put o.dst g x).h w:=fun x g=>by cases o.dst<;>exact Evo.refl _ _ _ _
 cases G with
 | true=>
  have h1:aop1 cx o K s∨(isVal cx.P o.op=true∧(aval cx.P s o.op).1∧K (s.put o.dst true (aval cx.P s o.op).2)):=by
   split at h
   ·rename_i x he;left;unfold aop1;rw [he];simpa using h
   ·rename_i x he;left;unfold aop1;rw [he];simpa using h
   ·rename_i c x y he
    left;unfold aop1;rw [he]
    dsimp only
    split at h
    ·rename_i gc c' ec
     try rw [ec]
     obtain ⟨h1,h2⟩:=h
     obtain ⟨h3,h4,h5⟩:=h1 rfl
     exact ⟨h3,h4,h5,h2⟩
    ·exact h.elim
   ·split at h
    ·rename_i hv
     exact .inr ⟨hv,h.1 rfl,h.2⟩
    ·exact .inl (h.1 rfl)
  simp only [if_true]
  rcases h1 with h1|⟨hv,h1,h2⟩
  ·exact zg8 hs hd h1
  ·obtain ⟨v,hv1,hr⟩:=znt hs.hp hs.slots o h1
   refine Does.wpIn (zik hv) (R:=fun v' w'=>v'=v∧w'=w) (.inl ⟨v,w,hv1,rfl,rfl⟩) ?_
   rintro v' w' ⟨rfl,rfl⟩
   exact ⟨E,_,h2,hs.put (fun k e=>by rw [e] at hd;exact hd) (fun _=>hr) (fun e=>by cases e),hev0 _ _⟩
 | false=>
  simp only [Bool.false_eq_true,if_false]
  refine ⟨fun _ _=>trivial,?_⟩
  have hput:∀x,Sat cx E (s.put o.dst false x) (a.put o.dst undef) w:=fun x=>hs.put (fun k e=>by rw [e] at hd;exact hd) (fun e=>by cases e) (fun _=>rfl)
  split at h
  ·exact ⟨E,_,h.2,hput _,hev0 _ _⟩
  ·exact ⟨E,_,h.2,hput _,hev0 _ _⟩
  ·split at h
   ·exact ⟨E,_,h.2,hput _,hev0 _ _⟩
   ·exact h.elim
  ·split at h
   ·exact ⟨E,_,h.2,hput _,hev0 _ _⟩
   ·exact ⟨E,_,h.2 rfl,hput _,hev0 _ _⟩
theorem zil {F:Fence} {n:Nat} {P:Program} {o:Oper} {Q Q':Exit->Act->World->Prop} {n1 n2:Act->World->Prop} (h:o.wpIn F n P a w n1 Q) (hn:∀a w,n1 a w->n2 a w) (hQ:∀e a w,Q e a w->Q' e a w):o.wpIn F n P a w n2 Q':=by
 obtain ⟨h1,h2⟩:=h;refine ⟨h1,?_⟩;revert h2;generalize (o.semAt F.round a.eval).run P w=r;intro h2;have hl:LetsOut Q->LetsOut Q':=by rintro ⟨_,_,h⟩;exact ⟨_,_,hQ _ _ _ h⟩
 cases r with
 | ok nx w'=>
  cases nx<;>simp only [Oper.uponIn] at h2 ⊢
  case value v=>exact hn _ _ h2
  case skip=>exact hn _ _ h2
  case defer d=>exact hn _ _ h2
  case enter f args=>exact ⟨h2.1,h2.2.mono λe w'' hr=>by
   cases e with
   |returned v=>exact hn _ _ hr
   |panicked c=>exact hQ _ _ _ hr
   |outgrown=>exact hl hr⟩
  case row r args=>exact ⟨h2.1,h2.2.mono λv w'' hr=>hn _ _ hr⟩
  case round l f t aZ b=>exact ⟨h2.1,h2.2.mono λe w'' hr=>by
   cases e with
   |returned v=>exact hn _ _ hr
   |panicked c=>exact hQ _ _ _ hr
   |outgrown=>exact hl hr⟩
 |halt x w'=>cases x<;>simp only [Oper.uponIn] at h2 ⊢ <;>first|exact hQ _ _ _ h2|exact h2
theorem zbx {o:Oper} {Q:Exit->Act->World->Prop} {n1 n2:Act->World->Prop} (h:o.wpIn cx.F 0 cx.P a w n1 (λ_ _ _=>False)) (hn:∀a w,n1 a w->n2 a w):o.wpIn cx.F 0 cx.P a w n2 Q:=
 zil h hn (λ_ _ _ h=>h.elim)
theorem zaR {F:Fence} {n:Nat} {P:Program} {all:Array Oper} {Q Q':Exit->Act->World->Prop} :∀ (l:List Nat) {a:Act} {w:World},wpOpsIn F n P all Q l a w->(∀e a w,Q e a w->Q' e a w)->wpOpsIn F n P all Q' l a w
 | [],a,w,h,hq=>hq _ _ _ h
 | i::l,a,w,h,hq=>by
  simp only [wpOpsIn] at h ⊢;split
  ·rename_i ho;simp only [ho] at h;exact zaR l h hq
  ·rename_i o ho;simp only [ho] at h;split
   ·rename_i hw;rw [if_pos hw] at h;exact zil h (λ_ _ h=>zaR l h hq) hq
   ·rename_i hw;rw [if_neg hw] at h;exact ⟨h.1,zaR l h.2 hq⟩
theorem zim {α:Type} (all:Array α):(List.range all.size).map (all[·]?)=all.toList.map some:=by
 apply List.ext_getElem?;intro i;simp only [List.getElem?_map];by_cases hi:i<all.size
 ·simp [hi]
 ·simp [hi]
theorem zbA {c:Operand} {x y:Code} {Q:Exit->AS->Prop} {b:Bool} (hc:s.ev c=(true,.d (.bool b))) (ht:b=true->AW cx x Q s) (hf:b=false->AW cx y Q s):AW cx (.cond c x y) Q s:=by intro E a w hs;have:=ev_ok hs.slots c (by rw [hc]);rw [hc] at this;simp only [Rep,RepD] at this;exact wpIn_cond_split this (λe=>ht e E a w hs) (λe=>hf e E a w hs)
end
end Go.Aw
