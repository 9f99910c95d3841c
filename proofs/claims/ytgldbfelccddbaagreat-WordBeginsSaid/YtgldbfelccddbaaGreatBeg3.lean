/-
 Parts of the proof: lemmas.
-/
import Derived.Test.YtgldbfelccddbaaGreatBeg2
import Derived.CallsIn
import Derived.Laws.IdiomStrings
import Derived.Laws.BytesArg
import Derived.Laws.AppendOwn
import Derived.ChangeKeysEq
set_option maxRecDepth 100000
set_option maxHeartbeats 2000000
set_option linter.unusedSimpArgs false
set_option linter.unusedVariables false
namespace Go.Aw
open Go
def Does (P:Program) (sem:Sem Next) (w:World) (R:Value→World→Prop):Prop:=
 (∃v w',sem.run P w= .ok (.value v) w'∧R v w')∨(∃w',sem.run P w= .ok .skip w'∧R undef w')
def zdw (cx:Cx) (E:Env) (s:AS) (a:Act) (W:World) (K:AV→AHeap→Prop) (v:Value) (w':World):Prop:=
 ∃E' h' x,K x h'∧Sat cx E' { s with h:=h' } a w'∧Evo cx.fl E s.h W E' h' w'∧Rep w' E' h' x v
def zcE (b:UInt8):List D:= [.int .u8 b.toNat]
def zg (l:List UInt8):List (List D):=l.map zcE
def numOf:List D→Int
 | [.int _ n]=>n
 |_=>0
def zg0:List D→Bool
 | [.int .u8 _]=>true
 |_=>false
def bytesOf (rows:List (List D)):List UInt8:=rows.map fun r=>UInt8.ofNat (numOf r).toNat
def rowsK (s:AS) (k:Nat):AV→Option (List (List D))
 | .nils _=>some []
 | .d (.sl k' rows)=>if k'=k then some rows else none
 | .osl i k' m off len=>(match hget s.h i with
  |some (.arr k'' xs)=>if k'=k∧k''=k∧m=xs.length∧off+len≤m then some ((xs.drop off).take len) else none
  |_=>none)
 | .vsl i k' off len=>(match hget s.h i with
  |some (.var cs)=>if k'=1∧k=1∧off+len≤cs.length then (toDs ((cs.drop off).take len)).map fun ds=>ds.map fun d=> [d] else none
  |_=>none)
 |_=>none
def rowsT (P:Program) (s:AS) (k:Nat) (t:TypeId) (x:AV):Option (List (List D)):=
 match (ty P t).td with
 | .slice _=>rowsK s k x
 | .str=>(match x with
  | .d (.str l)=>if k=1 then some (zg l) else none
  |_=>none)
 |_=>none
def zb3 (s:AS):AV→(Bool→Prop)→Prop
 | .nils _,R=>R true
 | .asl _ _,R=>R false
 | .vsl _ _ _ _,R=>R false
 | .d (.sl _ rows),R=>∀b,(b=true→rows= [])→R b
 | .osl i k n _ len,R=>s.cur i n k∧∀b,(b=true→len=0)→R b
 |_,_=>False
def isX (P:Program):Op→Bool
 | .convert src dst _=>(match (ty P src).td with| .slice _=>true|_=>false)||(match (ty P dst).td with| .slice _=>true|_=>false)
 | .binOp _ t _ _ _=>(match (ty P t).td with| .slice _=>true|_=>false)
 |_=>false
def zrow (P:Program) (e:TypeId):Option (List D):=toDs (zx P 12 e)
def rput (xs:List (List D)) (off:Nat) (rows:List (List D)):List (List D):=xs.take off++rows++xs.drop (off+rows.length)
def zH (fl:Nat) (P:Program) (s:AS) (op:Op) (K:AV→AHeap→Prop):Prop:=
  match op with
  | .convert src dst x=>(match (ty P src).td,(ty P dst).td with
    | .str,.slice e=>(match s.ev x with
      |(g,.d (.str l))=>g=true∧(ty P e).td= .int .u8∧K (.osl (fresh fl s.h) 1 l.length 0 l.length) ((fresh fl s.h,.arr 1 (zg l))::s.h)
      |_=>False)
    | .slice e,.str=>(match rowsK s 1 (s.ev x).2 with
      |some rows=>(s.ev x).1=true∧(ty P e).td= .int .u8∧rows.all zg0=true∧K (.d (.str (bytesOf rows))) s.h
      |none=>False)
    |_,_=>False)
  | .binOp o t x y _=>(match (ty P t).td with
    | .slice _=>(s.ev x).1=true∧(s.ev y).1=true∧(match (s.ev y).2,o with
      | .nils _,.eql=>zb3 s (s.ev x).2 (fun b=>K (.d (.bool b)) s.h)
      | .nils _,.neq=>zb3 s (s.ev x).2 (fun b=>K (.d (.bool (!b))) s.h)
      |_,_=>False)
    |_=>False)
  | .makeSlice t l c=>(match (ty P t).td,s.ev l,s.ev c with
    | .slice e,(gl,.d (.int .i64 n)),(gc,.d (.int .i64 m))=>gl=true∧gc=true∧n=m∧0≤n∧n*(ty P e).bytes≤16777216∧n≤16777216∧zD P e=true∧(ty P e).td≠ .other∧(ty P e).size≠0∧
      (match zrow P e with
      |some z=>K (.osl (fresh fl s.h) (ty P e).size n.toNat 0 n.toNat) ((fresh fl s.h,.arr (ty P e).size (List.replicate n.toNat z))::s.h)
      |none=>False)
    |_,_,_=>False)
  | .range t x=>(match (ty P t).td,s.ev x with
    | .str,(g,.d (.str l))=>g=true∧K (.itr (fresh fl s.h)) ((fresh fl s.h,.strit l 0)::s.h)
    |_,_=>False)
  | .next x b=>(match s.ev x with
    | (g,.itr i)=>g=true∧b=true∧(match hget s.h i with
      |some (.strit l p)=>if p<l.length then K (.tup [.d (.bool true),.d (.int .i64 p),.d (.int .i32 (Utf8.decode ⟨l.toArray⟩ p).1)]) (hset s.h i (.strit l (p+(Utf8.decode ⟨l.toArray⟩ p).2))) else K (.tup [.d (.bool false)]) s.h
      |_=>False)
    |_=>False)
  | .makeMap _ r=>(match r with
    |none=>K (.map (fresh fl s.h)) ((fresh fl s.h,.omap [])::s.h)
    |some _=>False)
  | .mapUpdate t m k v=>(match (ty P t).td,s.ev m,s.ev k,s.ev v with
    | .map kt _,(gm,.map i),(gk,.d kd),(gv,.d vd)=>gm=true∧gk=true∧gv=true∧vd.scal=true∧(match s.esOf i with
      |some es=>alike (ty P kt).td kd=true∧(es.all fun p=>alike (ty P kt).td p.1)=true∧K .any (hset s.h i (.omap (mput kd vd es)))
      |none=>False)
    |_,_,_,_=>False)
  | .call c => (match c.callee with
    | .builtin .append=>(match c.args.toList,c.argTypes.toList with
      | [x, y], [t,u]=>(match (ty P t).td with
        | .slice e=>(s.ev x).1=true∧(s.ev y).1=true∧zD P e=true∧(ty P e).td≠ .other∧(ty P e).size≠0∧
          (match rowsT P s (ty P e).size u (s.ev y).2 with
          | some rows=>(match (s.ev x).2 with
            | .nils _=>rows.length*(ty P e).bytes≤140737488355328∧rows.length≤140737488355328∧K (.osl (fresh fl s.h) (ty P e).size rows.length 0 rows.length) ((fresh fl s.h,.arr (ty P e).size rows)::s.h)
            | .osl i k m off len=>(match hget s.h i with
              | some (.arr k' xs)=>k=(ty P e).size∧k'=(ty P e).size∧m=xs.length∧off=0∧(if len=m then (xs.length+rows.length)*(ty P e).bytes≤140737488355328∧xs.length+rows.length≤140737488355328∧
                K (.osl i k (m+rows.length) 0 (m+rows.length)) (hset s.h i (.arr k' (xs++rows))) else len+rows.length≤m∧K (.osl i k m 0 (len+rows.length)) (hset s.h i (.arr k' (rput xs len rows))))
              |_=>False)
            |_=>False)
          |none=>False)
        |_=>False)
      |_,_=>False)
    | .builtin .copy=>(match c.args.toList,c.argTypes.toList with
      | [x, y],[t,u]=>(match (ty P t).td with
        | .slice e=>(s.ev x).1=true∧(s.ev y).1=true∧zD P e=true∧(ty P e).size≠0∧
          (match rowsT P s (ty P e).size u (s.ev y).2 with
          | some rows=>(match (s.ev x).2 with
            | .osl i k m off len=>(match hget s.h i with
              |some (.arr k' xs)=>k=(ty P e).size∧k'=(ty P e).size∧m=xs.length∧off+len≤m∧rows.length≤len∧K (.d (.int .i64 rows.length)) (hset s.h i (.arr k' (rput xs off rows)))
              |_=>False)
            |_=>False)
          |none=>False)
        |_=>False)
      |_,_=>False)
    | .builtin .clear=>(match c.args.toList,c.argTypes.toList with
      | [x], [t]=>(match (ty P t).td with
        | .slice e=>(s.ev x).1=true∧zD P e=true∧(ty P e).td≠ .other∧(ty P e).size≠0∧
          (match zrow P e with
          | some z=>(match (s.ev x).2 with
            | .osl i k m off len=>(match hget s.h i with
              |some (.arr k' xs)=>k=(ty P e).size∧k'=(ty P e).size∧m=xs.length∧off+len≤m∧K (.tup []) (hset s.h i (.arr k' (rput xs off (List.replicate len z))))
              |_=>False)
            |_=>False)
          |none=>False)
        |_=>False)
      |_,_=>False)
    |_=>False)
  |_=>False
section
variable {P : Program} {W : World} {E : Env} {s : AS} {a : Act} {cx : Cx} {K : AV → AHeap → Prop}
theorem Sat.drew {w:World} (hs:Sat cx E s a w):Sat cx E s a w.drew where
 slots:=fun k g v hk=>by
  obtain ⟨x,h1,h2,h3⟩:=hs.slots k g v hk
  exact ⟨x,h1,fun e=>Rep.step (W:=w) (W':=w.drew) (fun _ _ h=>h) (fun _ _ _=>rfl) _ _ (fun j _=>GoesOn.refl E s.h j) (h2 e),h3⟩
 nt:=hs.nt
 hp:=⟨fun i o ho=>by
  have:=hs.hp.heap i o ho
  cases o with
  |var cs=>
   simp only [RepObj] at this ⊢
   obtain ⟨b,d,T,fz,h1,h2,h3,h4⟩:=this
   exact ⟨b,d,T,fz,h1,h2,Reps.step (W:=w) (W':=w.drew) (fun _ _ hx=>hx) (fun _ _ _=>rfl) _ _ (fun j _=>GoesOn.refl E s.h j) h3,h4⟩
  |tvar tt cs=>
   simp only [RepObj] at this ⊢
   obtain ⟨b,d,T,fz,h1,h2,h3,h4⟩:=this
   exact ⟨b,d,T,fz,h1,h2,Reps.step (W:=w) (W':=w.drew) (fun _ _ hx=>hx) (fun _ _ _=>rfl) _ _ (fun j _=>GoesOn.refl E s.h j) h3,h4⟩
  |arr k xs=>
   simp only [RepObj] at this ⊢
   rcases this with h0|⟨b,d,T,fz,h1,h2,h3,h4,h5,h6⟩
   ·exact .inl h0
   ·exact .inr ⟨b,d,T,fz,h1,h2,h3,h4,RepRows.step (W:=w) (W':=w.drew) (fun _ _ hx=>hx) (fun _ _ _=>rfl) _ _ _ h5,h6⟩
  |buf tt xs=>
   simp only [RepObj] at this ⊢
   rcases this with h0|⟨b,d,T,fz,h1,h2,h3,h4,h5,h6⟩
   ·exact .inl h0
   ·exact .inr ⟨b,d,T,fz,h1,h2,h3,h4,h5,h6⟩
  |strit l p=>exact this
  |omap es=>exact this,hs.hp.inj,hs.hp.own,hs.hp.mlt,hs.hp.nlt⟩
 base:=hs.base
 marks:=hs.marks
 ghost:=cx.stab _ _ _ _ _ w _ (fun _ _ _=>rfl) (fun _ hb=> .inl hb) (fun b hb=>hb.elim (fun h=>(hs.hp.own b h).1) hs.marks.lt) (Nat.le_refl _) rfl rfl rfl hs.ghost
theorem ze7 {w:World} (hs:Sat cx E s a w) {k cap:Nat} {xs:List (List D)} {vs:Array Value} (hr:RepRows w (Xs E s.h) k xs vs.toList) (hl:xs.length≤cap) (hz:vs.size=cap*k) (T:TypeId) (fz:Nat×Nat) (hf:zY fz vs.size) (w':World) (hw:w'=w.alloc (.cells vs T fz)):
  Sat cx (E.set (fresh cx.fl s.h) (some w.heap.size) cap) { s with h:=(fresh cx.fl s.h,.arr k xs)::s.h } a w'∧Evo cx.fl E s.h w (E.set (fresh cx.fl s.h) (some w.heap.size) cap) ((fresh cx.fl s.h,.arr k xs)::s.h) w'∧
  Rep w' (E.set (fresh cx.fl s.h) (some w.heap.size) cap) ((fresh cx.fl s.h,.arr k xs)::s.h) (.osl (fresh cx.fl s.h) k xs.length 0 xs.length) (.slice (some ⟨w.heap.size,0,none⟩) xs.length cap):=by
 subst hw
 have c:=zdu cx.fl hs.hp (.cells vs T fz) (.arr k xs) cap
 refine ⟨c.sat hs (fun o ho=>?_),c.evo (.inr (zO _ _)),?_⟩
 ·simp [hget] at ho
  subst ho
  simp only [RepObj]
  exact .inr ⟨w.heap.size,vs,T,fz,by simp [Env.set],zaV w _,by simpa [Env.set] using hz,by simpa [Env.set] using hl,c.rows hr,hf⟩
 ·simp only [Rep]
  exact ⟨⟨_,_,_,rfl⟩,xs,by simp [hget],Nat.le_refl _,by omega,fun _=> .inr (.inl ⟨w.heap.size,by simp [Env.set],by simp [Env.set]⟩)⟩
theorem zbN {w:World} {X:Nat→Prop} :∀ (l:List UInt8) (r:List Value),RepRows w X 1 (zg l) (l.map (fun b=>Value.int .u8 b.toNat)++r)
 | [],_=>by simp [zg,RepRows]
 |b::l,r=>by
  simp only [zg,List.map_cons,RepRows,List.cons_append]
  refine ⟨rfl,by simp [zcE,RepDs,RepD],?_⟩
  have:=zbN (w:=w) (X:=X) l r
  unfold zg at this
  simpa using this
theorem zft {w:World} {X:Nat→Prop} :∀ (rows:List (List D)) (cs:List Value),RepRows w X 1 rows cs→rows.all zg0=true→∀i,i<rows.length→cs[i]?=some (.int .u8 ((rows.map numOf).getD i 0))
 | [],_,_,_,i,hi=>by simp at hi
 | r ::rows,cs,h,hb,i,hi=>by
  simp only [RepRows] at h
  obtain ⟨h1,h2,h3⟩:=h
  simp only [List.all_cons,Bool.and_eq_true] at hb
  cases i with
  | zero=>
   unfold zg0 at hb
   split at hb
   ·rename_i n
    simp only [RepDs,RepD] at h2
    obtain ⟨v,r',e,rfl,rfl⟩:=h2
    cases cs with
    |nil=>simp at e
    |cons c cs=>
     simp at e
     simp [numOf,e]
   ·simp at hb
  |succ i=>
   have:=zft rows _ h3 hb.2 i (by simpa using hi)
   rw [List.getElem?_drop,Nat.add_comm] at this
   simpa using this
theorem zet (rows:List (List D)):strOfNums (rows.map numOf)=⟨(bytesOf rows).toArray⟩:=by
 unfold strOfNums bytesOf
 rw [List.map_map]
 rfl
theorem zje (hp:SatH E s.h W) {k:Nat} {x:AV} {v:Value} {rows:List (List D)} (hr:Rep W E s.h x v) (h:rowsK s k x=some rows):
  (rows= []∧∃a cap,v= .slice a 0 cap)∨(∃b off cap c T fz,v= .slice (some ⟨b,off,none⟩) rows.length cap∧W.heap[b]?=some (.cells c T fz)∧RepRows W (Xs E s.h) k rows (c.toList.drop off)):=by
 unfold rowsK at h
 split at h
 ·cases h
  simp only [Rep] at hr
  exact .inl ⟨rfl,_,_,hr⟩
 ·split at h
  ·rename_i hk;subst hk
   cases h
   simp only [Rep,RepD] at hr
   rcases hr with ⟨rfl,a,cap,rfl⟩|⟨a,cap,c,T,fz,rfl,h2,h3,h4,h5,h6⟩
   ·exact .inl ⟨rfl,_,_,rfl⟩
   ·obtain ⟨ab,ao,asp⟩:=a
    simp only at h2
    subst h2
    exact .inr ⟨ab,ao,cap,c,T,fz,rfl,h5,h6⟩
  ·cases h
 ·rename_i i k' m off len
  split at h
  ·rename_i k'' xs hi
   split at h
   ·rename_i hc
    obtain ⟨rfl,rfl,rfl,hle⟩:=hc
    cases h
    simp only [Rep] at hr
    obtain ⟨_,xs',h1,_,h3,h4⟩:=hr
    rw [hi] at h1;cases h1
    have hlen:((xs.drop off).take len).length=len:=by simp;omega
    have ho:=hp.heap i _ hi
    simp only [RepObj] at ho
    rcases h4 rfl with ⟨⟨g1,g10⟩,rfl⟩|⟨b,g1,rfl⟩|⟨g1,rfl,a,cap,rfl⟩
    ·obtain rfl:xs= []:=List.length_eq_zero_iff.1 g10
     exact .inl ⟨by simp,_,_,rfl⟩
    ·rcases ho with ⟨q1,_⟩|⟨b',c,T,fz,q1,q2,q3,q4,q5,_⟩
     ·rw [g1] at q1;cases q1
     ·rw [g1] at q1;cases q1
      refine .inr ⟨b,off*_,_,c,T,fz,by rw [hlen],q2,(RepRows.drop q5 off).take len⟩
    ·exact .inl ⟨by simp,_,_,rfl⟩
   ·cases h
  ·cases h
 ·rename_i i k' off len
  split at h
  ·rename_i cs hi
   split at h
   ·rename_i hc
    obtain ⟨rfl,rfl,hc⟩:=hc
    simp only [Option.map_eq_some_iff] at h
    obtain ⟨ds,hds,rfl⟩:=h
    simp only [Rep] at hr
    obtain ⟨b,cs',h1,h2,h3,_,_,rfl⟩:=hr
    rw [hi] at h1;cases h1
    have ho:=hp.heap i _ hi
    simp only [RepObj] at ho
    obtain ⟨b',c,T,fz,q1,q2,q3,_⟩:=ho
    rw [h2] at q1;cases q1
    have hq:=(Reps.drop q3 off).take len
    have hd:=hq.toDs hds
    have hln:ds.length=len:=by
     have:=RepDs.length hd
     have h9:=Reps.length hq
     have h8:=Reps.length q3
     simp at this h9 h8
     omega
    refine .inr ⟨b,off,_,c,T,fz,by rw [List.length_map,hln],q2,?_⟩
    have key:∀ (ds:List D) (vs us:List Value),RepDs W (Xs E s.h) ds vs→RepRows W (Xs E s.h) 1 (ds.map fun d=> [d]) (vs++us):=by
     intro ds
     induction ds with
     |nil=>intro vs us _;simp [RepRows]
     |cons d ds ih=>
      intro vs us h1
      simp only [RepDs] at h1
      obtain ⟨v,r,rfl,h3,h4⟩:=h1
      simp only [List.map_cons,RepRows,List.cons_append]
      exact ⟨rfl,by simp [RepDs,h3],by simpa using ih r us h4⟩
    have:=key ds _ ((c.toList.drop off).drop len) hd
    rwa [List.take_append_drop] at this
   ·cases h
  ·cases h
 ·cases h
theorem RepDs.oneCells {X:Nat→Prop} :∀ {ds:List D} {vs:List Value},RepDs W X ds vs→∀u∈vs,u.oneCell'=true
 | [],vs,h,u,hu=>by simp only [RepDs] at h;subst h;simp at hu
 |d::ds,vs,h,u,hu=>by
  simp only [RepDs] at h
  obtain ⟨v,r,rfl,h1,h2⟩:=h
  rcases List.mem_cons.1 hu with rfl|hu
  ·exact RepD.one h1
  ·exact RepDs.oneCells h2 u hu
theorem RepRows.oneCells {X:Nat→Prop} {k:Nat} :∀ {rows:List (List D)} {vs:List Value},RepRows W X k rows vs→vs.length=rows.length*k→∀u∈vs,u.oneCell'=true
 | [],vs,h,hl,u,hu=>by
  have:vs= []:=by simpa using hl
  subst this;simp at hu
 | r::rows,vs,h,hl,u,hu=>by
  simp only [RepRows] at h
  obtain ⟨h1,h2,h3⟩:=h
  rw [← List.take_append_drop k vs] at hu
  rcases List.mem_append.1 hu with hu|hu
  ·exact RepDs.oneCells h2 u hu
  ·refine RepRows.oneCells h3 ?_ u hu
   simp only [List.length_cons,Nat.succ_mul] at hl
   rw [List.length_drop];omega
theorem zoE (hp:SatH E s.h W) {k:Nat} {u:TypeId} {x:AV} {v:Value} {rows:List (List D)} (hr:Rep W E s.h x v) (h:rowsT P s k u x=some rows):
  ∃news:List Value,news.length=rows.length*k∧RepRows W (Xs E s.h) k rows news∧(∀y∈news,y.oneCell'=true)∧(Builtin.lenOf v).run P W= .ok rows.length W∧
   (∀W':World,W'.heap=W.heap→(Builtin.firstCells k rows.length v).run P W'= .ok news.toArray W')∧(∃d,P.underlying u=some d∧∀kk,d≠ .int kk):=by
 unfold rowsT at h
 split at h
 ·rename_i e hu
  have hund:=zq hu
  rcases zje hp hr h with ⟨rfl,a,cap,rfl⟩|⟨b,off,cap,c,T,fz,rfl,hb,hrr⟩
  ·refine ⟨[],by simp,by simp [RepRows],by simp,by simp [Builtin.lenOf],fun W' hW=>?_,_,hund,fun kk=>by simp⟩
   cases a with
   |none=>simp [Builtin.firstCells]
   |some a=>simp [Builtin.firstCells,loadCells,loadCellsFrom]
  ·have hle:=RepRows.length_le hrr
   have hln:((c.toList.drop off).take (rows.length*k)).length=rows.length*k:=by rw [List.length_take];omega
   have hrr':RepRows W (Xs E s.h) k rows ((c.toList.drop off).take (rows.length*k)):=RepRows.congr hrr (by rw [List.take_take,Nat.min_self])
   refine ⟨(c.toList.drop off).take (rows.length*k),hln,hrr',RepRows.oneCells hrr' hln,by simp [Builtin.lenOf],fun W' hW=>?_,_,hund,fun kk=>by simp⟩
   refine run_firstCells_some W' k rows.length ⟨b,off,none⟩ rows.length cap _ hln (fun j y hj=>?_)
   rw [Addr.add_none,zn (by rw [hW];exact hb)]
   rw [List.getElem?_take] at hj
   split at hj
   ·simpa [List.getElem?_drop] using hj
   ·cases hj
 ·rename_i hu
  have hund:=zaC hu
  split at h
  ·rename_i l
   split at h
   ·rename_i hk;subst hk
    cases h
    simp only [Rep,RepD] at hr
    subst hr
    refine ⟨l.map fun b=> .int .u8 b.toNat,by simp [zg],?_,?_,?_,fun W' hW=>?_,_,hund,fun kk=>by simp⟩
    ·have:=zbN (w:=W) (X:=Xs E s.h) l []
     simpa using this
    ·intro y hy
     obtain ⟨b,_,rfl⟩:=List.mem_map.1 hy
     rfl
    ·simp [Builtin.lenOf,zg,ByteArray.size]
    ·have hln:(zg l).length=l.length:=by simp [zg]
     rw [hln]
     have hsz:(⟨l.toArray⟩:ByteArray).size=l.length:=by simp [ByteArray.size]
     have hex:(⟨l.toArray⟩:ByteArray).extract 0 l.length=⟨l.toArray⟩:=by
      rw [← hsz];exact ByteArray.extract_zero_size
     simp [Builtin.firstCells,hex]
   ·cases h
  ·cases h
 ·cases h
theorem zbS {t u ty e:TypeId} {i:TypeInfo} {z:Value} (ht:P.underlying t=some (.slice e)) {d:TypeDesc} (hu:P.underlying u=some d) (hd:∀kk,d≠ .int kk) (hi:P.info? e=some i) (hz:i.zero=some z)
  {w:World} {base:Option Addr} {sLen sCap n:Nat} {x:Value} {olds news:List Value} (hx:(Builtin.lenOf x).run P w= .ok n w)
  (ho:∀W':World,W'.heap=w.heap→(Builtin.firstCells i.size sLen (.slice base sLen sCap)).run P W'= .ok olds.toArray W') (hn:∀W':World,W'.heap=w.heap→(Builtin.firstCells i.size n x).run P W'= .ok news.toArray W')
  (hg:sCap<sLen+n) (h63:((sLen+n:Nat):Int)≤9223372036854775807) (hfit:Builtin.nextslicecap (sLen+n) sCap*i.bytes≤281474976710656):
  (Builtin.append_ #[t,u] ty #[.slice base sLen sCap,x]).run P w=
   .ok (.slice (some ⟨w.heap.size,0,none⟩) (sLen+n) (grownCap w (sLen+n) sCap e))
    (w.drew.alloc (.cells (olds.toArray++news.toArray++Builtin.zeroCells z.cells (grownCap w (sLen+n) sCap e - (sLen+n))) e)):=by
 have hn1:¬(sLen+n≤sCap):=by omega
 have h63':¬(9223372036854775807<((sLen:Int)+(n:Int))):=by omega
 have h48':¬(281474976710656<Builtin.nextslicecap (sLen+n) sCap*i.bytes):=by omega
 have ho':=ho w.drew rfl
 have hn':=hn w.drew rfl
 have hd':(match d with| .int _=>true|_=>false)=false:=by cases d<;>first|rfl|exact absurd rfl (hd _)
 simp [Builtin.append_,run_underlying ht,run_underlying hu,hd',sizeOf,typeInfo,zeroValue,hi,hz,hx,hn1,h63',h48',Question.forced,ho',hn',newRow,grownCap]
 congr 2
 apply Array.ext'
 simp [List.append_assoc]
theorem zbT {t u ty e:TypeId} {i:TypeInfo} (ht:P.underlying t=some (.slice e)) {d:TypeDesc} (hu:P.underlying u=some d) (hd:∀kk,d≠ .int kk) (hi:P.info? e=some i)
  {w:World} {g sLen sCap n:Nat} {x:Value} {news:List Value} {c:Array Value} {T:TypeId} {fz:Nat×Nat} (hx:(Builtin.lenOf x).run P w= .ok n w)
  (hn:(Builtin.firstCells i.size n x).run P w= .ok news.toArray w) (hb:w.heap[g]?=some (.cells c T fz)) (hf:zY fz c.size) (h1:∀y∈news,y.oneCell'=true) (hl:sLen*i.size+news.length≤c.size)
  (hroom:sLen+n≤sCap):
  (Builtin.append_ #[t,u] ty #[.slice (some ⟨g,0,none⟩) sLen sCap,x]).run P w= .ok (.slice (some ⟨g,0,none⟩) (sLen+n) sCap) (World.row w g (.cells (putA c (sLen*i.size) news) T fz)):=by
 have hd':(match d with| .int _=>true|_=>false)=false:=by cases d<;>first|rfl|exact absurd rfl (hd _)
 have hst:=zas (P:=P) (T:=T) (fz:=fz) (sLen*i.size) news 0 c w hb hf (by omega) h1
 simp only [Nat.add_zero] at hst
 simp [Builtin.append_,run_underlying ht,run_underlying hu,hd',sizeOf,typeInfo,hi,hx,hroom,hn,Addr.add_none,hst]
theorem zbU {t u ty e:TypeId} {i:TypeInfo} (ht:P.underlying t=some (.slice e)) {d:TypeDesc} (hu:P.underlying u=some d) (hd:∀kk,d≠ .int kk) (hi:P.info? e=some i)
  {w:World} {base:Option Addr} {sLen sCap:Nat} {x:Value} (hx:(Builtin.lenOf x).run P w= .ok 0 w)
  (hn:(Builtin.firstCells i.size 0 x).run P w= .ok #[] w) (hroom:sLen≤sCap):
  (Builtin.append_ #[t,u] ty #[.slice base sLen sCap,x]).run P w= .ok (.slice base sLen sCap) w:=by
 have hd':(match d with| .int _=>true|_=>false)=false:=by cases d<;>first|rfl|exact absurd rfl (hd _)
 cases base<;>simp [Builtin.append_,run_underlying ht,run_underlying hu,hd',sizeOf,typeInfo,hi,hx,hroom,hn,storeCells]
theorem zdx:∀ {h:AHeap} {i:Nat} {o:AObj},hget h i=some o→hset h i o=h
  | [],i,o,h=>rfl
  | (k,ok)::r,i,o,h=>by
    simp only [hget,hset] at h ⊢
    by_cases e:k=i
    · simp only [e,if_true,Option.some.injEq] at h ⊢
      subst h;rfl
    · simp only [e,if_false] at h ⊢
      rw [zdx h]
theorem zfu {t:TypeId} (hz:zD P t=true) {zs:List D} (hzr:zrow P t=some zs):∃i z,P.info? t=some i∧i.zero=some z∧i.size=(ty P t).size∧i.bytes=(ty P t).bytes∧z.cells.size=(ty P t).size∧
  ∀ (W:World) (X:Nat→Prop),RepDs W X zs z.cells.toList:=by
 obtain ⟨i,z,h1,h2,h3,h4,h5,h6⟩:=zdr hz
 refine ⟨i,z,h1,h2,h6,by simp [ty,Program.bytesOf,h1],by rw [h5,h6],fun W X=>?_⟩
 have hr:Reps W (bare X) [] (zx P 12 t) z.cells.toList:=zeq h3
 have hd:=hr.toDs hzr
 refine RepDs.step (W:=W) (W':=W) (X:=Xs (bare X) []) (fun b _ hx=> .inr (.inr hx)) (fun _ _ _=>rfl) _ _ hd
theorem zdQ {X:Nat→Prop} {k:Nat} {zs:List D} {z:Array Value} (hk:zs.length=k) (hz:z.size=k) (h:RepDs W X zs z.toList):∀ (n m:Nat),n≤m→RepRows W X k (List.replicate n zs) ((Array.range (m*k)).map (z[· % z.size]!)).toList:=by
 have key:∀ (n:Nat),RepRows W X k (List.replicate n zs) ((List.replicate n z.toList).flatten):=by
  intro n
  induction n with
  |zero=>simp [RepRows]
  | succ n ih=>
   simp only [List.replicate_succ,RepRows,List.flatten_cons]
   have hl:z.toList.length=k:=by simpa using hz
   refine ⟨hk,?_,?_⟩
   ·rw [← hl,List.take_left']
    ·exact h
    ·rfl
   ·rw [← hl,List.drop_left']
    ·rw [hl];exact ih
    ·rfl
 intro n m hnm
 refine RepRows.congr (key n) ?_
 rw [List.length_replicate]
 have hl:z.toList.length=k:=by simpa using hz
 apply List.ext_getElem?
 intro j
 rw [List.getElem?_take,List.getElem?_take]
 split
 ·rename_i hj
  have hk0:0<k:=by
   rcases Nat.eq_zero_or_pos k with h0|h0
   ·subst h0;simp at hj
   ·exact h0
  have hjm:j<m*k:=Nat.lt_of_lt_of_le hj (Nat.mul_le_mul_right _ hnm)
  have hfl:∀ (n j:Nat),j<n*k→((List.replicate n z.toList).flatten)[j]?=z.toList[j % k]?:=by
   intro n
   induction n with
   |zero=>intro j hj;simp at hj
   | succ n ih=>
    intro j hj
    rw [Nat.succ_mul] at hj
    simp only [List.replicate_succ,List.flatten_cons]
    by_cases h1:j<k
    ·rw [List.getElem?_append_left (by omega),Nat.mod_eq_of_lt h1]
    ·rw [List.getElem?_append_right (by omega),hl,ih (j - k) (by omega)]
     rw [← Nat.mod_eq_sub_mod (by omega)]
  rw [hfl n j hj]
  have hlt:j % k<z.size:=by rw [hz];exact Nat.mod_lt _ hk0
  simp only [Array.toList_map,Array.toList_range,List.getElem?_map,List.getElem?_range hjm,Option.map_some,hz]
  rw [getElem!_pos z (j % k) hlt]
  simp [hlt]
 ·rfl
theorem zig {α:Type} :∀ (c:List α) (o:Nat) (vs:List α),o+vs.length≤c.length→putL c o vs=c.take o++vs++c.drop (o+vs.length)
 |c,o,[],_=>by simp [putL]
 | c,o,v::vs,h=>by
  simp only [List.length_cons] at h
  rw [putL,zig _ _ _ (by simp;omega)]
  have h1:(c.set o v).take (o+1)=c.take o++ [v]:=by
   rw [List.take_add_one,List.take_set_of_le (Nat.le_refl o),List.getElem?_set_self (by omega)]
   rfl
  have h2:(c.set o v).drop (o+1+vs.length)=c.drop (o+(vs.length+1)):=by
   rw [List.drop_set_of_lt (by omega)]
   congr 1;omega
  rw [h1,h2]
  simp
theorem zjf {w:World} (hs:Sat cx E s a w) {k i:Nat} {xs rows:List (List D)} (hi:hget s.h i=some (.arr k xs)) {cap:Nat} {olds news us:List Value} (ho:RepRows w (Xs E s.h) k xs olds) (hol:olds.length=xs.length*k) (hn:RepRows w (Xs E s.h) k rows news) (hnl:news.length=rows.length*k)
    (hr0:rows≠ []) (hc:xs.length+rows.length≤cap) {vs:Array Value} (hv:vs.toList=olds++news++us) (hz:vs.size=cap*k) (T:TypeId):
    Sat cx (E.set i (some w.heap.size) cap) { s with h:=hset s.h i (.arr k (xs++rows)) } a (w.alloc (.cells vs T))∧Evo cx.fl E s.h w (E.set i (some w.heap.size) cap) (hset s.h i (.arr k (xs++rows))) (w.alloc (.cells vs T))∧
    Rep (w.alloc (.cells vs T)) (E.set i (some w.heap.size) cap) (hset s.h i (.arr k (xs++rows))) (.osl i k (xs.length+rows.length) 0 (xs.length+rows.length)) (.slice (some ⟨w.heap.size,0,none⟩) (xs.length+rows.length) cap):=by
  have hlen0:rows.length≠0:=by simpa using hr0
  have c:Chg E s.h w (E.set i (some w.heap.size) cap) (hset s.h i (.arr k (xs++rows))) (w.alloc (.cells vs T)) i:=
    { os:=rfl,tape:=rfl,output:=rfl,size:=by simp,envO:=fun j e=>by simp [Env.set,e],envC:=fun j e=>by simp [Env.set,e],M:=rfl,N:=rfl,hh:=fun j e=>zr e,
      gi:=by
        unfold GoesOn
        rw [hi]
        exact ⟨_,ze hi,by simp,fun e=>absurd (by rw [List.length_append] at e;omega:rows.length=0) hlen0⟩
      blk:=fun b hb _=>by
        show (w.heap.push _)[b]?=_
        rw [Array.getElem?_push,if_neg (by omega)]
      new:=fun b _ hb=>by
        simp only [Env.set,if_true,Option.some.injEq] at hb
        subst hb
        exact .inr ⟨Nat.le_refl _,by simp⟩ }
  refine ⟨c.sat hs (fun o ho'=>?_),c.evo (.inl (by simp [hi])),?_⟩
  · rw [ze hi] at ho'
    cases ho'
    simp only [RepObj]
    refine .inr ⟨w.heap.size,vs,T,(0,0),by simp [Env.set],zaV w _,by simpa [Env.set] using hz,by simpa [Env.set] using hc,?_,by simp [zY]⟩
    rw [hv]
    have h1:=RepRows.append (c.rows ho) (c.rows hn) hol
    refine RepRows.congr h1 ?_
    rw [List.length_append,List.take_append_of_le_length (l₁:=olds++news) (by rw [List.length_append,hol,hnl,Nat.add_mul];omega)]
  · simp only [Rep]
    exact ⟨⟨_,_,_,rfl⟩,xs++rows,ze hi,by simp,by omega,fun _=> .inr (.inl ⟨w.heap.size,by simp [Env.set],by simp [Env.set]⟩)⟩
theorem zih {w:World} (hs:Sat cx E s a w) {k i b:Nat} {xs rows:List (List D)} (hi:hget s.h i=some (.arr k xs)) (hb:E.O i=some b) {c:Array Value} {T:TypeId} {fz:Nat×Nat} (hc:w.heap[b]?=some (.cells c T fz)) (hcs:c.size=E.C i*k)
    (hx:RepRows w (Xs E s.h) k xs c.toList) (hf:zY fz c.size) {news:List Value} (hn:RepRows w (Xs E s.h) k rows news) (hnl:news.length=rows.length*k) (hcap:xs.length+rows.length≤E.C i):
    Sat cx E { s with h:=hset s.h i (.arr k (xs++rows)) } a (World.row w b (.cells (putA c (xs.length*k) news) T fz))∧Evo cx.fl E s.h w E (hset s.h i (.arr k (xs++rows))) (World.row w b (.cells (putA c (xs.length*k) news) T fz))∧
    Rep (World.row w b (.cells (putA c (xs.length*k) news) T fz)) E (hset s.h i (.arr k (xs++rows))) (.osl i k (xs.length+rows.length) 0 (xs.length+rows.length)) (.slice (some ⟨b,0,none⟩) (xs.length+rows.length) (E.C i)):=by
  have hblt:=(Array.getElem?_eq_some_iff.1 hc).1
  have ch:Chg E s.h w E (hset s.h i (.arr k (xs++rows))) (World.row w b (.cells (putA c (xs.length*k) news) T fz)) i:=
    { os:=rfl,tape:=rfl,output:=rfl,size:=by simp,envO:=fun j e=>rfl,envC:=fun j e=>rfl,M:=rfl,N:=rfl,hh:=fun j e=>zr e,
      gi:=by
        unfold GoesOn
        rw [hi]
        exact ⟨_,ze hi,by simp,fun _=>⟨rfl,rfl⟩⟩
      blk:=fun j hj hn=>zbc (fun e=>hn ⟨by simp [hi],by rw [hb,e]⟩)
      new:=fun j _ hj=> .inl ⟨by simp [hi],hj⟩ }
  have hle:xs.length*k+news.length≤c.toList.length:=by
    rw [hnl,← Nat.add_mul]
    simp only [Array.length_toList,hcs]
    exact Nat.mul_le_mul_right _ hcap
  refine ⟨ch.sat hs (fun o ho'=>?_),ch.evo (.inl (by simp [hi])),?_⟩
  · rw [ze hi] at ho'
    cases ho'
    simp only [RepObj]
    refine .inr ⟨b,_,T,fz,hb,zbM hblt,by rw [zaD];exact hcs,by simpa using hcap,?_,by rw [zaD];exact hf⟩
    rw [zay,zig _ _ _ hle]
    have hxl:(c.toList.take (xs.length*k)).length=xs.length*k:=by rw [List.length_take];omega
    have hx':RepRows w (Xs E s.h) k xs (c.toList.take (xs.length*k)):=RepRows.congr hx (by rw [List.take_take,Nat.min_self])
    have h1:=RepRows.append (ch.rows hx') (ch.rows hn) hxl
    refine RepRows.congr h1 ?_
    rw [List.length_append,List.take_append_of_le_length (l₁:=c.toList.take (xs.length*k)++news) (by rw [List.length_append,hxl,hnl,Nat.add_mul];omega)]
  · simp only [Rep]
    exact ⟨⟨_,_,_,rfl⟩,xs++rows,ze hi,by simp,by omega,fun _=> .inr (.inl ⟨b,hb,by simp⟩)⟩
theorem zfV {t:TypeId} {e:Nat} (ht:(ty P t).td= .slice e) (p:Option Addr) (l c:Nat) (w:World):(Op.equal t (.slice p l c) (.slice none 0 0)).run P w= .ok p.isNone w:=by
 show (Op.equalIn (9999+1) t _ _).run P w=_
 unfold Op.equalIn
 cases p<;>simp only [Sem.run_bind,run_underlying (zq ht),Result.andThen_ok,Sem.run_pure,Option.isNone_none,Option.isNone_some]
theorem zfv (hp:SatH E s.h W) {x:AV} {v:Value} {R:Bool→Prop} (hr:Rep W E s.h x v) (h:zb3 s x R):∃p l c,v= .slice p l c∧R p.isNone:=by
 unfold zb3 at h
 split at h
 ·simp only [Rep] at hr;exact ⟨_,_,_,hr,h⟩
 ·simp only [Rep] at hr;obtain ⟨a,cap,c,T,fz,rfl,_⟩:=hr;exact ⟨_,_,_,rfl,h⟩
 ·simp only [Rep] at hr;obtain ⟨b,cs,h1,h2,h3,_,_,rfl⟩:=hr;exact ⟨_,_,_,rfl,h⟩
 ·simp only [Rep,RepD] at hr
  rcases hr with ⟨rfl,a,cap,rfl⟩|⟨a,cap,c,T,fz,rfl,h2⟩
  ·exact ⟨_,_,_,rfl,h _ (fun _=>rfl)⟩
  ·exact ⟨_,_,_,rfl,h _ (fun e=>by cases e)⟩
 ·rename_i i k n off len
  obtain ⟨hcur,h⟩:=h
  unfold AS.cur at hcur
  split at hcur
  ·rename_i k' xs hi
   obtain ⟨rfl,rfl⟩:=hcur
   simp only [Rep] at hr
   obtain ⟨_,xs',h1,h2,h3,h4⟩:=hr
   rw [hi] at h1;cases h1
   rcases h4 rfl with ⟨⟨g1,g10⟩,rfl⟩|⟨b,g1,rfl⟩|⟨g1,rfl,a,cap,rfl⟩
   ·exact ⟨_,_,_,rfl,h _ (fun _=>by omega)⟩
   ·exact ⟨_,_,_,rfl,h _ (fun e=>by cases e)⟩
   ·exact ⟨_,_,_,rfl,h _ (fun _=>rfl)⟩
  ·exact hcur.elim
 ·exact h.elim
theorem zii (hs:Sat cx E s a W) (dst:Option Tmp) (ot:TypeId) (pos:String) (after:Array Edge) (guard:Option (Nat×Bool)) (t:TypeId) (l c:Operand) (h:zH cx.fl P s (.makeSlice t l c) K):Does P (execOp a.eval ⟨dst,.makeSlice t l c,ot,pos,after,guard⟩) W (zdw cx E s a W K):=by
 unfold zH at h
 dsimp only at h
 split at h
 ·rename_i e gl n gc m ht hl hc
  obtain ⟨rfl,rfl,rfl,h0,hby,hn,hz,hne,hk0,h⟩:=h
  split at h
  ·rename_i zs hzs
   obtain ⟨i,z,h1,h2,h3,h3b,h4,h5⟩:=zfu hz hzs
   have hvl:=ev_ok hs.slots l (by rw [hl])
   have hvc:=ev_ok hs.slots c (by rw [hc])
   rw [hl] at hvl
   rw [hc] at hvc
   simp only [Rep,RepD] at hvl hvc
   have hmade:madeCells z.cells (n.toNat*i.size)=(Array.range (n.toNat*i.size)).map (z.cells[· % z.cells.size]!):=rfl
   have hrun:=run_make (P:=P) W t e i z (zq ht) h1 h2 .i64 .i64 n n h0 (Int.le_refl _) (by rw [h3b,Int.mul_comm];omega) (by omega)
   have hzl:zs.length=(ty P e).size:=by have:=RepDs.length (h5 W (Xs E s.h));simp at this;omega
   have hrows:=zdQ (k:=(ty P e).size) (z:=z.cells) hzl h4 (h5 W (Xs E s.h)) n.toNat n.toNat (Nat.le_refl _)
   obtain ⟨q1,q2,q3⟩:=zcD hs (k:=(ty P e).size) (cap:=n.toNat) (xs:=List.replicate n.toNat zs) (vs:=madeCells z.cells (n.toNat*i.size)) (by rw [hmade,h3];exact hrows) (by simp) (by rw [hmade,h3];simp) e _ rfl
   rw [List.length_replicate] at q3
   refine .inl ⟨_,_,?_,_,_,_,h,q1,q2,q3⟩
   simp only [execOp,hvl,hvc,Sem.run_bind,hrun,Result.andThen_ok,Sem.run_pure]
  ·exact h.elim
 ·exact h.elim
theorem zfW {w:World} (hs:Sat cx E s a w) {k i b:Nat} {xs rows:List (List D)} (hi:hget s.h i=some (.arr k xs)) (hb:E.O i=some b) {c:Array Value} {T:TypeId} {fz:Nat×Nat} (hc:w.heap[b]?=some (.cells c T fz)) (hcs:c.size=E.C i*k) (hxc:xs.length≤E.C i)
    (hx:RepRows w (Xs E s.h) k xs c.toList) (hf:zY fz c.size) {news:List Value} (hn:RepRows w (Xs E s.h) k rows news) (hnl:news.length=rows.length*k) {off:Nat} (hl:off+rows.length≤xs.length):
    Sat cx E { s with h:=hset s.h i (.arr k (rput xs off rows)) } a (World.row w b (.cells (putA c (off*k) news) T fz))∧Evo cx.fl E s.h w E (hset s.h i (.arr k (rput xs off rows))) (World.row w b (.cells (putA c (off*k) news) T fz)):=by
  have hlen:(rput xs off rows).length=xs.length:=by unfold rput;simp;omega
  have hblt:=(Array.getElem?_eq_some_iff.1 hc).1
  have ch:Chg E s.h w E (hset s.h i (.arr k (rput xs off rows))) (World.row w b (.cells (putA c (off*k) news) T fz)) i:=
    { os:=rfl,tape:=rfl,output:=rfl,size:=by simp,envO:=fun j e=>rfl,envC:=fun j e=>rfl,M:=rfl,N:=rfl,hh:=fun j e=>zr e,
      gi:=by
        unfold GoesOn
        rw [hi]
        exact ⟨_,ze hi,by rw [hlen];exact Nat.le_refl _,fun _=>⟨rfl,rfl⟩⟩
      blk:=fun j hj hn=>zbc (fun e=>hn ⟨by simp [hi],by rw [hb,e]⟩)
      new:=fun j _ hj=> .inl ⟨by simp [hi],hj⟩ }
  have hle:off*k+news.length≤c.toList.length:=by
    rw [hnl,← Nat.add_mul]
    simp only [Array.length_toList,hcs]
    exact Nat.mul_le_mul_right _ (by omega)
  refine ⟨ch.sat hs (fun o ho'=>?_),ch.evo (.inl (by simp [hi]))⟩
  rw [ze hi] at ho'
  cases ho'
  simp only [RepObj]
  refine .inr ⟨b,_,T,fz,hb,zbM hblt,by rw [zaD];exact hcs,by rw [hlen];exact hxc,?_,by rw [zaD];exact hf⟩
  rw [zay,zig _ _ _ hle]
  have h1l:(c.toList.take (off*k)).length=off*k:=by rw [List.length_take];omega
  have h1:RepRows w (Xs E s.h) k (xs.take off) (c.toList.take (off*k)):=by
    refine RepRows.congr (hx.take off) ?_
    rw [List.take_take,List.length_take,Nat.min_eq_left (by omega),Nat.min_self]
  have h3:RepRows w (Xs E s.h) k (xs.drop (off+rows.length)) (c.toList.drop (off*k+news.length)):=by
    have:=RepRows.drop hx (off+rows.length)
    rwa [Nat.add_mul,← hnl] at this
  unfold rput
  exact RepRows.append (RepRows.append (ch.rows h1) (ch.rows hn) (by rw [h1l,List.length_take,Nat.min_eq_left (by omega)])) (ch.rows h3) (by
    rw [List.length_append,h1l,hnl,List.length_append,List.length_take,Nat.min_eq_left (by omega),Nat.add_mul])
theorem zoF (hp:SatH E s.h W) {i k m off len:Nat} {v:Value} (hr:Rep W E s.h (.osl i k m off len) v) {xs:List (List D)} (hi:hget s.h i=some (.arr k xs)) (hm:m=xs.length) (hl:off+len≤m):
  (len=0∧∃p cap,v= .slice p 0 cap)∨(∃b c T fz cap,E.O i=some b∧v= .slice (some ⟨b,off*k,none⟩) len cap∧W.heap[b]?=some (.cells c T fz)∧c.size=E.C i*k∧xs.length≤E.C i∧RepRows W (Xs E s.h) k xs c.toList∧zY fz c.size):=by
 simp only [Rep] at hr
 obtain ⟨_,xs',g1,_,_,g2⟩:=hr
 rw [hi] at g1;cases g1
 have hob:=hp.heap i _ hi
 simp only [RepObj] at hob
 rcases g2 hm.symm with ⟨⟨g3,g30⟩,hxv⟩|⟨b,g3,hxv⟩|⟨g3,g4,p,cap,hxv⟩
 ·have:len=0:=by omega
  exact .inl ⟨this,none,0,hxv⟩
 ·rcases hob with ⟨q1,_⟩|⟨b',cc,T,fz,q1,q2,q3,q4,q5,q6⟩
  ·rw [g3] at q1;cases q1
  ·rw [g3] at q1;cases q1
   exact .inr ⟨b,cc,T,fz,_,g3,hxv,q2,q3,q4,q5,q6⟩
 ·exact .inl ⟨g4,p,cap,hxv⟩
theorem zfX (xs:List (List D)) (off:Nat):rput xs off []=xs:=by simp [rput]
theorem zij (hs:Sat cx E s a W) (dst:Option Tmp) (ot:TypeId) (pos:String) (after:Array Edge) (guard:Option (Nat×Bool)) (c:Call) (hcal:c.callee= .builtin .copy) (h:zH cx.fl P s (.call c) K):Does P (execOp a.eval ⟨dst,.call c,ot,pos,after,guard⟩) W (zdw cx E s a W K):=by
 unfold zH at h
 dsimp only at h
 rw [hcal] at h
 dsimp only at h
 split at h
 ·rename_i x y t u hargs htys
  split at h
  ·rename_i e ht
   obtain ⟨hgx,hgy,hz,hk0,h⟩:=h
   split at h
   ·rename_i rows hrows
    split at h
    ·rename_i i k m off len hxe
     split at h
     ·rename_i k' xs hi
      obtain ⟨rfl,rfl,rfl,hol,hrl,hk⟩:=h
      have hx:=ev_ok hs.slots x hgx
      have hy:=ev_ok hs.slots y hgy
      obtain ⟨inf,z,h1,_,_,_,_,h6⟩:=zdr hz
      obtain ⟨news,n1,n2,n3,n4,n5,_⟩:=zoE hs.hp hy hrows
      have hca:c.args= #[x,y]:=by rw [← hargs]
      have hct:c.argTypes= #[t,u]:=by rw [← htys]
      rw [hxe] at hx
      have hexec:∀w',(Builtin.copy_ #[t,u] ot #[a.eval x,a.eval y]).run P W= .ok (.int .i64 rows.length) w'→(execOp a.eval ⟨dst,.call c,ot,pos,after,guard⟩).run P W= .ok (.value (.int .i64 rows.length)) w':=by
       intro w' hr
       simp only [execOp,resolve,hcal,hca,hct,Sem.run_bind,Sem.run_pure,Result.andThen_ok,invoke,builtin]
       simp [hr]
      have hsz:(sizeOf e).run P W= .ok (ty P e).size W:=by
       simp [sizeOf,typeInfo,h1,h6]
      have hrun:∀ (p:Option Addr) (cap:Nat),a.eval x= .slice p len cap→(Builtin.copy_ #[t,u] ot #[a.eval x,a.eval y]).run P W=((match p with|some q=>storeCells q news|none=>pure ()) >>= fun _=>pure (goInt rows.length)).run P W:=by
       intro p cap ex
       rw [ex]
       have hmin:Nat.min rows.length len=rows.length:=Nat.min_eq_left hrl
       cases p<;>simp [Builtin.copy_,run_underlying (zq ht),n4,hmin,hsz,n5 W rfl]
      rcases zoF hs.hp hx hi rfl hol with ⟨rfl,p,cap,ex⟩|⟨b,cc,T,fz,cap,g3,ex,q2,q3,q4,q5,q6⟩
      ·have hr0:rows= []:=List.length_eq_zero_iff.1 (by omega)
       subst hr0
       have hn0:news= []:=by simpa using n1
       subst hn0
       have hset:hset s.h i (.arr (ty P e).size (rput xs off []))=s.h:=by rw [zfX];exact zdx hi
       rw [hset] at hk
       refine .inl ⟨_,_,hexec W ?_,E,s.h,_,hk,hs,Evo.refl _ _ _ _,by simp [Rep,RepD]⟩
       rw [hrun p cap ex]
       cases p<;>simp [storeCells,goInt]
      ·have hle:off*(ty P e).size+0+news.length≤cc.size:=by
        rw [n1,q3,Nat.add_zero,← Nat.add_mul]
        exact Nat.mul_le_mul_right _ (by omega)
       have hst:=zas (P:=P) (off*(ty P e).size) news 0 cc W q2 q6 hle n3
       obtain ⟨r1,r2⟩:=zfW hs hi g3 q2 q3 q4 q5 q6 n2 n1 (off:=off) (by omega)
       refine .inl ⟨_,_,hexec _ ?_,E,_,_,hk,r1,r2,by simp [Rep,RepD]⟩
       rw [hrun _ _ ex]
       simp only [Sem.run_bind,hst,Result.andThen_ok,Sem.run_pure,goInt]
       rfl
     ·exact h.elim
    ·exact h.elim
   ·exact h.elim
  ·exact h.elim
 ·exact h.elim
theorem zg1 (hs:Sat cx E s a W) (dst:Option Tmp) (ot:TypeId) (pos:String) (after:Array Edge) (guard:Option (Nat×Bool)) (c:Call) (hcal:c.callee= .builtin .clear) (h:zH cx.fl P s (.call c) K):Does P (execOp a.eval ⟨dst,.call c,ot,pos,after,guard⟩) W (zdw cx E s a W K):=by
 unfold zH at h
 dsimp only at h
 rw [hcal] at h
 dsimp only at h
 split at h
 ·rename_i x t hargs htys
  split at h
  ·rename_i e ht
   obtain ⟨hgx,hz,hne,hk0,h⟩:=h
   split at h
   ·rename_i zs hzr
    split at h
    ·rename_i i k m off len hxe
     split at h
     ·rename_i k' xs hi
      obtain ⟨rfl,rfl,rfl,hol,hk⟩:=h
      have hx:=ev_ok hs.slots x hgx
      obtain ⟨inf,z,h1,h2,h3,_,h4,h5⟩:=zfu hz hzr
      have hzl:zs.length=(ty P e).size:=by
       have:=RepDs.length (h5 W (Xs E s.h))
       rw [← this];simpa using h4
      have hca:c.args= #[x]:=by rw [← hargs]
      have hct:c.argTypes= #[t]:=by rw [← htys]
      rw [hxe] at hx
      have hexec:∀w',(Builtin.clear_ #[t] ot #[a.eval x]).run P W= .ok (.tuple #[]) w'→(execOp a.eval ⟨dst,.call c,ot,pos,after,guard⟩).run P W= .ok (.value (.tuple #[])) w':=by
       intro w' hr
       simp only [execOp,resolve,hcal,hca,hct,Sem.run_bind,Sem.run_pure,Result.andThen_ok,invoke,builtin]
       simp [hr]
      have hzv:(zeroValue e).run P W= .ok z W:=by
       simp [zeroValue,typeInfo,h1,h2]
      rcases zoF hs.hp hx hi rfl hol with ⟨rfl,p,cap,ex⟩|⟨b,cc,T,fz,cap,g3,ex,q2,q3,q4,q5,q6⟩
      ·have hset:hset s.h i (.arr (ty P e).size (rput xs off (List.replicate 0 zs)))=s.h:=by rw [List.replicate_zero,zfX];exact zdx hi
       rw [hset] at hk
       refine .inl ⟨_,_,hexec W ?_,E,s.h,_,hk,hs,Evo.refl _ _ _ _,by simp [Rep,Reps]⟩
       rw [ex]
       cases p<;>simp [Builtin.clear_,run_underlying (zq ht)]
      ·cases len with
       |zero=>
        have hset:hset s.h i (.arr (ty P e).size (rput xs off (List.replicate 0 zs)))=s.h:=by rw [List.replicate_zero,zfX];exact zdx hi
        rw [hset] at hk
        refine .inl ⟨_,_,hexec W ?_,E,s.h,_,hk,hs,Evo.refl _ _ _ _,by simp [Rep,Reps]⟩
        rw [ex]
        simp [Builtin.clear_,run_underlying (zq ht)]
       | succ n=>
        obtain ⟨news,hnews⟩:∃news,news=(Builtin.zeroCells z.cells (n+1)).toList:=⟨_,rfl⟩
        have n1:news.length=(List.replicate (n+1) zs).length*(ty P e).size:=by rw [hnews,List.length_replicate];simp [size_zeroCells,h4]
        have n2:RepRows W (Xs E s.h) (ty P e).size (List.replicate (n+1) zs) news:=by
         rw [hnews]
         have:=zdQ (X:=Xs E s.h) (k:=(ty P e).size) hzl (by simpa using h4) (h5 W (Xs E s.h)) (n+1) (n+1) (Nat.le_refl _)
         unfold Builtin.zeroCells
         rw [h4]
         rw [h4] at this
         exact this
        have n3:∀y∈news,y.oneCell'=true:=RepRows.oneCells n2 n1
        have hle:off*(ty P e).size+0+news.length≤cc.size:=by
         rw [n1,q3,Nat.add_zero,← Nat.add_mul,List.length_replicate]
         exact Nat.mul_le_mul_right _ (by omega)
        have hst:=zas (P:=P) (off*(ty P e).size) news 0 cc W q2 q6 hle n3
        obtain ⟨r1,r2⟩:=zfW hs hi g3 q2 q3 q4 q5 q6 n2 n1 (off:=off) (by rw [List.length_replicate];omega)
        refine .inl ⟨_,_,hexec _ ?_,E,_,_,hk,r1,r2,by simp [Rep,Reps]⟩
        rw [ex]
        simp only [Builtin.clear_,List.getElem?_toArray,List.getElem?_cons_zero,Sem.run_bind,run_underlying (zq ht),Result.andThen_ok,hzv]
        rw [← hnews,hst]
        rfl
     ·exact h.elim
    ·exact h.elim
   ·exact h.elim
  ·exact h.elim
 ·exact h.elim
theorem zik (hs : Sat cx E s a W) (dst:Option Tmp) (ot:TypeId) (pos:String) (after:Array Edge) (guard:Option (Nat×Bool)) (c:Call) (h:zH cx.fl P s (.call c) K):Does P (execOp a.eval ⟨dst,.call c,ot,pos,after,guard⟩) W (zdw cx E s a W K):=by
  have hdrew:Evo cx.fl E s.h W E s.h W.drew:=⟨rfl,rfl,rfl,Nat.le_refl _,fun _ _ _ _=>rfl,fun _ h=> .inl h,fun _ h=>h,fun _ h=> .inl h,rfl,fun i _ h=>⟨h,GoesOn.refl E _ i⟩⟩
  unfold zH at h
  dsimp only at h
  split at h
  · rename_i hcal
    split at h
    · rename_i x y t u hargs htys
      split at h
      · rename_i e ht
        obtain ⟨hgx,hgy,hz,hne,hk0,h⟩:=h
        obtain ⟨i,z,h1,h2,h3,h3b,h4,h5⟩:∃i z,P.info? e=some i∧i.zero=some z∧i.size=(ty P e).size∧i.bytes=(ty P e).bytes∧z.cells.size=(ty P e).size∧True:=by
          obtain ⟨i,z,g1,g2,g3,g4,g5,g6⟩:=zdr hz
          exact ⟨i,z,g1,g2,g6,by simp [ty,Program.bytesOf,g1],by rw [g5,g6],trivial⟩
        have hx:=ev_ok hs.slots x hgx
        have hy:=ev_ok hs.slots y hgy
        split at h
        · rename_i rows hrows
          obtain ⟨news,n1,n2,n3,n4,n5,d,hd1,hd2⟩:=zoE hs.hp hy hrows
          have hca:c.args= #[x,y]:=by rw [← hargs]
          have hct:c.argTypes= #[t,u]:=by rw [← htys]
          have hexec:∀v w',(Builtin.append_ #[t,u] ot #[a.eval x,a.eval y]).run P W= .ok v w'→(execOp a.eval ⟨dst,.call c,ot,pos,after,guard⟩).run P W= .ok (.value v) w':=by
            intro v w' hr
            simp only [execOp,resolve,hcal,hca,hct,Sem.run_bind,Sem.run_pure,Result.andThen_ok,invoke,builtin]
            simp [hr]
          have fits:∀need old:Nat,old<need→need*(ty P e).bytes≤140737488355328→Builtin.nextslicecap need old*i.bytes≤281474976710656:=fun need old hlt hb=>growslice_fits hlt (by rw [h3b];exact hb)
          have hfresh:∀ (base:Option Addr) (sCap:Nat),a.eval x= .slice base 0 sCap→sCap=0→rows.length*(ty P e).bytes≤140737488355328→rows.length≤140737488355328→rows≠ []→
              (∃w',(Builtin.append_ #[t,u] ot #[a.eval x,a.eval y]).run P W= .ok (.slice (some ⟨W.heap.size,0,none⟩) rows.length (grownCap W rows.length 0 e)) w'∧
                w'=W.drew.alloc (.cells (news.toArray++Builtin.zeroCells z.cells (grownCap W rows.length 0 e - rows.length)) e)):=by
            intro base sCap e1 e2 hb1 hb2 hne0
            subst e2
            have hpos:0<rows.length:=List.length_pos_iff.2 hne0
            have:=zbS (P:=P) (ty:=ot) (u:=u) (zq ht) hd1 hd2 h1 h2 (w:=W) (base:=base) (sLen:=0) (sCap:=0) (n:=rows.length) (x:=a.eval y) (olds:= []) (news:=news) n4
              (fun W' hW=>by cases base<;>simp [Builtin.firstCells,loadCells,loadCellsFrom]) (fun W' hW=>by rw [h3];exact n5 W' hW) (by omega) (by omega) (by rw [Nat.zero_add];exact fits _ _ hpos hb1)
            rw [e1]
            simp only [Nat.zero_add] at this
            exact ⟨_,this,by simp⟩
          split at h
          · rename_i k hxe
            obtain ⟨hb1,hb2,hk⟩:=h
            rw [hxe] at hx
            simp only [Rep] at hx
            by_cases hne0:rows= []
            · -- nothing behind nothing: the nil slice, aZ an array that has no block
              subst hne0
              have hr:=zbU (P:=P) (ty:=ot) (zq ht) hd1 hd2 h1 (w:=W) (base:=none) (sLen:=0) (sCap:=0) (x:=a.eval y) (by simpa using n4) (by
                have:=n5 W rfl
                have e0:news= []:=by simpa using n1
                subst e0
                rw [h3];simpa using this) (Nat.le_refl _)
              rw [← hx] at hr
              have cc:Chg E s.h W (E.set (fresh cx.fl s.h) none 0) ((fresh cx.fl s.h,.arr (ty P e).size [])::s.h) W (fresh cx.fl s.h):=
                { os:=rfl,tape:=rfl,output:=rfl,size:=Nat.le_refl _,envO:=fun j e=>by simp [Env.set,e],envC:=fun j e=>by simp [Env.set,e],M:=rfl,N:=rfl,hh:=fun j e=>by simp [hget,Ne.symm e],
                  gi:=by simp [GoesOn,zai]
                  blk:=fun b hb _=>rfl
                  new:=fun b _ hb=>by simp [Env.set] at hb }
              refine .inl ⟨_,_,hexec _ _ hr,_,_,_,hk,cc.sat hs (fun o ho=>?_),cc.evo (.inr (zO _ _)),?_⟩
              · simp [hget] at ho
                subst ho
                simp only [RepObj]
                exact .inl ⟨by simp [Env.set],.inl trivial⟩
              · simp only [Rep]
                exact ⟨⟨_,_,_,hx⟩,[],by simp [hget],by simp,by simp,fun _=> .inl ⟨⟨by simp [Env.set],rfl⟩,hx⟩⟩
            · obtain ⟨w',hr,hw'⟩:=hfresh none 0 hx rfl hb1 hb2 hne0
              have hcap:=grownCap_ge W rows.length 0 e
              obtain ⟨q1,q2,q3⟩:=zcD hs.drew (k:=(ty P e).size) (cap:=grownCap W rows.length 0 e) (xs:=rows) (vs:=news.toArray++Builtin.zeroCells z.cells (grownCap W rows.length 0 e - rows.length)) (by
                simp only [Array.toList_append]
                have:=RepRows.append (xs:=rows) (ys:= []) (vs:=news) (ws:=(Builtin.zeroCells z.cells (grownCap W rows.length 0 e - rows.length)).toList) (k:=(ty P e).size) (RepRows.step (W:=W) (W':=W.drew) (fun _ _ hx=>hx) (fun _ _ _=>rfl) _ _ _ n2) (by simp [RepRows]) n1
                simpa using this) hcap (by
                simp only [Array.size_append,List.size_toArray,n1,size_zeroCells,h4,← Nat.add_mul]
                congr 1;omega) e _ hw'
              exact .inl ⟨_,_,hexec _ _ hr,_,_,_,hk,q1,Evo.trans (E':=E) (h':=s.h) (w':=W.drew) hdrew q2,q3⟩
          · rename_i i' k m off len hxe
            split at h
            · rename_i k' xs hi
              obtain ⟨rfl,rfl,rfl,rfl,h⟩:=h
              rw [hxe] at hx
              simp only [Rep] at hx
              by_cases hlm:len=xs.length
              case neg=>
                rw [if_neg hlm] at h
                obtain ⟨hrl,hk⟩:=h
                obtain ⟨_,xs',g1,_,_,g2⟩:=hx
                rw [hi] at g1;cases g1
                have hob:=hs.hp.heap i' _ hi
                simp only [RepObj] at hob
                rcases g2 rfl with ⟨⟨_,g30⟩,_⟩|⟨b,g3,hxv⟩|⟨g3,_⟩
                · omega
                · rcases hob with ⟨q1,_⟩|⟨b',cc,T,fz,q1,q2,q3,q4,q5,q6⟩
                  · rw [g3] at q1;cases q1
                  · rw [g3] at q1;cases q1
                    simp only [Nat.zero_mul,Nat.sub_zero] at hxv
                    have hfit:len*i.size+news.length≤cc.size:=by
                      rw [h3,n1,← Nat.add_mul,q3]
                      exact Nat.mul_le_mul_right _ (by omega)
                    have hr:=zbT (P:=P) (ty:=ot) (zq ht) hd1 hd2 h1 (w:=W) (g:=b) (sLen:=len) (sCap:=E.C i') (x:=a.eval y) (news:=news) n4 (by rw [h3];exact n5 W rfl) q2 q6 n3 hfit (by omega)
                    rw [← hxv,h3] at hr
                    obtain ⟨r1,r2⟩:=zfW hs hi g3 q2 q3 q4 q5 q6 n2 n1 hrl
                    refine .inl ⟨_,_,hexec _ _ hr,E,_,_,hk,r1,r2,?_⟩
                    simp only [Rep]
                    exact ⟨⟨_,_,_,rfl⟩,rput xs len rows,ze hi,by unfold rput;simp;omega,by omega,fun _=> .inr (.inl ⟨b,g3,by simp⟩)⟩
                · exact absurd rfl g3
              subst hlm
              rw [if_pos rfl] at h
              obtain ⟨hb1,hb2,hk⟩:=h
              obtain ⟨_,xs',g1,_,_,g2⟩:=hx
              rw [hi] at g1;cases g1
              have hob:=hs.hp.heap i' _ hi
              simp only [RepObj] at hob
              rcases g2 rfl with ⟨⟨g3,g30⟩,hxv⟩|⟨b,g3,hxv⟩|⟨g3,_⟩
              · -- no block yet
                obtain rfl:xs= []:=List.length_eq_zero_iff.1 g30
                rcases hob with _|⟨b,cc,T,fz,q1,_⟩
                · simp only [List.length_nil,Nat.zero_add,List.nil_append] at hb1 hb2 hk
                  by_cases hne0:rows= []
                  · subst hne0
                    have hr:=zbU (P:=P) (ty:=ot) (zq ht) hd1 hd2 h1 (w:=W) (base:=none) (sLen:=0) (sCap:=0) (x:=a.eval y) (by simpa using n4) (by
                      have:=n5 W rfl
                      have e0:news= []:=by simpa using n1
                      subst e0
                      rw [h3];simpa using this) (Nat.le_refl _)
                    rw [← hxv] at hr
                    have hset:hset s.h i' (.arr (ty P e).size [])=s.h:=zdx hi
                    rw [hset] at hk
                    refine .inl ⟨_,_,hexec _ _ hr,E,s.h,_,hk,hs,Evo.refl _ _ _ _,?_⟩
                    simp only [Rep]
                    exact ⟨⟨_,_,_,hxv⟩,[],hi,by simp,by simp,fun _=> .inl ⟨⟨g3,rfl⟩,hxv⟩⟩
                  · obtain ⟨w',hr,hw'⟩:=hfresh none 0 hxv rfl hb1 hb2 hne0
                    have hcap:=grownCap_ge W rows.length 0 e
                    subst hw'
                    obtain ⟨q1,q2,q3⟩:=zjf (cap:=grownCap W rows.length 0 e) hs.drew hi (olds:= []) (news:=news) (us:=(Builtin.zeroCells z.cells (grownCap W rows.length 0 e - rows.length)).toList) (rows:=rows) (by simp [RepRows]) (by simp)
                      (RepRows.step (W:=W) (W':=W.drew) (fun _ _ hx=>hx) (fun _ _ _=>rfl) _ _ _ n2) n1 hne0 (by simpa using hcap) (vs:=news.toArray++Builtin.zeroCells z.cells (grownCap W rows.length 0 e - rows.length)) (by simp) (by
                        simp only [Array.size_append,List.size_toArray,n1,size_zeroCells,h4,← Nat.add_mul]
                        congr 1;omega) e
                    simp only [List.length_nil,Nat.zero_add,List.nil_append] at q1 q2 q3
                    exact .inl ⟨_,_,hexec _ _ hr,_,_,_,hk,q1,Evo.trans (E':=E) (h':=s.h) (w':=W.drew) hdrew q2,q3⟩
                · rw [g3] at q1;cases q1
              · rcases hob with ⟨q1,_⟩|⟨b',cc,T,fz,q1,q2,q3,q4,q5,q6⟩
                · rw [g3] at q1;cases q1
                · rw [g3] at q1;cases q1
                  simp only [Nat.zero_mul,Nat.sub_zero] at hxv
                  have hcc:xs.length*(ty P e).size≤cc.toList.length:=RepRows.length_le q5
                  by_cases hroom:xs.length+rows.length≤E.C i'
                  · have hfit:xs.length*i.size+news.length≤cc.size:=by
                      rw [h3,n1,← Nat.add_mul,q3]
                      exact Nat.mul_le_mul_right _ hroom
                    have hr:=zbT (P:=P) (ty:=ot) (zq ht) hd1 hd2 h1 (w:=W) (g:=b) (sLen:=xs.length) (sCap:=E.C i') (x:=a.eval y) (news:=news) n4 (by rw [h3];exact n5 W rfl) q2 q6 n3 hfit hroom
                    rw [← hxv,h3] at hr
                    obtain ⟨r1,r2,r3⟩:=zih hs hi g3 q2 q3 q5 q6 n2 n1 hroom
                    exact .inl ⟨_,_,hexec _ _ hr,_,_,_,hk,r1,r2,r3⟩
                  · have hne0:rows≠ []:=by rintro rfl;simp at hroom;omega
                    have holds:((cc.toList).take (xs.length*(ty P e).size)).length=xs.length*(ty P e).size:=by rw [List.length_take];omega
                    have hr:=zbS (P:=P) (ty:=ot) (u:=u) (zq ht) hd1 hd2 h1 h2 (w:=W) (base:=some ⟨b,0,none⟩) (sLen:=xs.length) (sCap:=E.C i') (n:=rows.length) (x:=a.eval y) (olds:=(cc.toList).take (xs.length*(ty P e).size)) (news:=news) n4
                      (fun W' hW=>run_firstCells_some W' i.size xs.length ⟨b,0,none⟩ xs.length (E.C i') _ (by rw [holds,h3]) (fun j y hj=>by
                        rw [Addr.add_none,zn (by rw [hW];exact q2)]
                        rw [List.getElem?_take] at hj
                        split at hj
                        · simpa using hj
                        · cases hj)) (fun W' hW=>by rw [h3];exact n5 W' hW) (by omega) (by omega) (fits _ _ (by omega) hb1)
                    rw [← hxv] at hr
                    have hcap:=grownCap_ge W (xs.length+rows.length) (E.C i') e
                    obtain ⟨r1,r2,r3⟩:=zjf (cap:=grownCap W (xs.length+rows.length) (E.C i') e) hs.drew hi (olds:=(cc.toList).take (xs.length*(ty P e).size)) (news:=news) (us:=(Builtin.zeroCells z.cells (grownCap W (xs.length+rows.length) (E.C i') e - (xs.length+rows.length))).toList) (rows:=rows)
                      (RepRows.step (W:=W) (W':=W.drew) (fun _ _ hx=>hx) (fun _ _ _=>rfl) _ _ _ (RepRows.congr q5 (by rw [List.take_take,Nat.min_self]))) holds
                      (RepRows.step (W:=W) (W':=W.drew) (fun _ _ hx=>hx) (fun _ _ _=>rfl) _ _ _ n2) n1 hne0 hcap (vs:=((cc.toList).take (xs.length*(ty P e).size)).toArray++news.toArray++Builtin.zeroCells z.cells (grownCap W (xs.length+rows.length) (E.C i') e - (xs.length+rows.length))) (by simp) (by
                        simp only [Array.size_append,List.size_toArray,n1,holds,size_zeroCells,h4,← Nat.add_mul]
                        congr 1;omega) e
                    exact .inl ⟨_,_,hexec _ _ hr,_,_,_,hk,r1,Evo.trans (E':=E) (h':=s.h) (w':=W.drew) hdrew r2,r3⟩
              · exact absurd rfl g3
            · exact h.elim
          · exact h.elim
        · exact h.elim
      · exact h.elim
    · exact h.elim
  · rename_i hcal
    exact zij hs dst ot pos after guard c hcal (by unfold zH;dsimp only;rw [hcal];exact h)
  · rename_i hcal
    exact zg1 hs dst ot pos after guard c hcal (by unfold zH;dsimp only;rw [hcal];exact h)
  · exact h.elim
theorem zll (hs:Sat cx E s a W) (o:Oper) (h:zH cx.fl P s o.op K):Does P (execOp a.eval o) W (zdw cx E s a W K):=by
 have hdrew:Evo cx.fl E s.h W E s.h W.drew:=⟨rfl,rfl,rfl,Nat.le_refl _,fun _ _ _ _=>rfl,fun _ h=> .inl h,fun _ h=>h,fun _ h=> .inl h,rfl,fun i _ h=>⟨h,GoesOn.refl E _ i⟩⟩
 obtain ⟨dst,op,ot,pos,after,guard⟩:=o
 dsimp only at h
 unfold zH at h
 split at h
 ·rename_i src dt x
  split at h
  ·rename_i e hsrc hdst
   split at h
   ·rename_i g l hx
    obtain ⟨rfl,he,hk⟩:=h
    have hv:=ev_ok hs.slots x (by rw [hx])
    rw [hx] at hv
    simp only [Rep,RepD] at hv
    have hrun:=run_bytes_of_string (P:=P) W src dt e ⟨l.toArray⟩ (zaC hsrc) (zq hdst) (zcB he)
    have hsz:(⟨l.toArray⟩:ByteArray).size=l.length:=by simp [ByteArray.size]
    rw [hsz] at hrun
    have hcap:=grownCap_ge W l.length 0 e
    obtain ⟨q1,q2,q3⟩:=ze7 (k:=1) (cap:=grownCap W l.length 0 e) (xs:=zg l) (vs:=bytesRow ⟨l.toArray⟩ (grownCap W l.length 0 e)) hs.drew (by
      unfold bytesRow
      simp only [Array.toList_append,Array.toList_map]
      exact zbN l _) (by simpa [zg] using hcap) (by simp [bytesRow,hsz];omega) e ((bytesRow ⟨l.toArray⟩ (grownCap W l.length 0 e)).size,(bytesRow ⟨l.toArray⟩ (grownCap W l.length 0 e)).size+1) (by intro o ho h;simp at h;omega) _ rfl
    have hln:(zg l).length=l.length:=by simp [zg]
    rw [hln] at q3
    refine .inl ⟨_,_,?_,_,_,_,hk,q1,Evo.trans (E':=E) (h':=s.h) (w':=W.drew) hdrew q2,q3⟩
    simp only [execOp,hv,Sem.run_bind,hrun,Result.andThen_ok,Sem.run_pure]
    rfl
   ·exact h.elim
  ·rename_i e hsrc hdst
   split at h
   ·rename_i rows hrows
    obtain ⟨hg,he,hb,hk⟩:=h
    have hv:=ev_ok hs.slots x hg
    have hrun:(convert src dt (a.eval x)).run P W= .ok (.string ⟨(bytesOf rows).toArray⟩) W:=by
     rcases zje hs.hp hv hrows with ⟨rfl,a',cap,e1⟩|⟨b,off,cap,c,T,fz,e1,hc,hr⟩
     ·rw [e1,run_convert_bytes_string W src dt e _ 0 cap (zq hsrc) (zcB he) (zaC hdst)]
      cases a' with
      |none=>simp [Conv.bytesToString,bytesOf,ByteArray.empty,ByteArray.emptyWithCapacity];rfl
      |some a'=>
       have:=run_bytesToString (P:=P) W a' 0 cap [] (by simp [loadCells,loadCellsFrom])
       rw [this]
       simp [bytesOf,ByteArray.empty,ByteArray.emptyWithCapacity];rfl
     ·rw [e1]
      have:=run_convert_bytes_arg (P:=P) W src e (zq hsrc) (zcB he) b off rows.length cap (rows.map numOf) (by simp) (fun i hi=>by
       rw [zn hc]
       have:=zft rows _ hr hb i hi
       rw [List.getElem?_drop] at this
       simpa using this) dt (zaC hdst)
      rw [this,zet]
    refine .inl ⟨.string ⟨(bytesOf rows).toArray⟩,W,?_,E,s.h,_,hk,hs,Evo.refl _ _ _ _,by simp [Rep,RepD]⟩
    simp only [execOp,Sem.run_bind,hrun,Result.andThen_ok,Sem.run_pure]
   ·exact h.elim
  ·exact h.elim
 ·rename_i bo t x y yt
  split at h
  ·rename_i e ht
   obtain ⟨hgx,hgy,h⟩:=h
   have hx:=ev_ok hs.slots x hgx
   have hy:=ev_ok hs.slots y hgy
   have hexec:∀ (bo:BinOp) (v:Value),(do eqGuard bo t x y (a.eval x) (a.eval y);binOp bo t (a.eval x) (a.eval y):Sem Value).run P W= .ok v W→(execOp a.eval ⟨dst,.binOp bo t x y yt,ot,pos,after,guard⟩).run P W= .ok (.value v) W:=by
    intro bo v hr
    simp only [execOp,Sem.run_bind] at hr ⊢
    rw [hr];rfl
   have hrunE:∀p l c,(do eqGuard .eql t x y (.slice p l c) (.slice none 0 0);binOp .eql t (.slice p l c) (.slice none 0 0):Sem Value).run P W=(do pure (.bool (← Op.equal t (.slice p l c) (.slice none 0 0))):Sem Value).run P W:=fun _ _ _=>rfl
   have hrunN:∀p l c,(do eqGuard .neq t x y (.slice p l c) (.slice none 0 0);binOp .neq t (.slice p l c) (.slice none 0 0):Sem Value).run P W=(do pure (.bool (!(← Op.equal t (.slice p l c) (.slice none 0 0)))):Sem Value).run P W:=fun _ _ _=>rfl
   have hrun:∀p l c,(Op.equal t (.slice p l c) (.slice none 0 0)).run P W= .ok p.isNone W:=by
    intro p l c
    exact zfV ht p l c W
   split at h
   ·rename_i hye
    obtain ⟨p,l,c,e1,hk⟩:=zfv hs.hp hx h
    rw [hye] at hy
    simp only [Rep] at hy
    refine .inl ⟨.bool p.isNone,W,?_,E,s.h,_,hk,hs,Evo.refl _ _ _ _,by simp [Rep,RepD]⟩
    exact hexec _ _ (by rw [e1,hy];simp only [hrunE,hrunN,hrun,Sem.run_bind,Sem.run_pure,Result.andThen_ok])
   ·rename_i hye
    obtain ⟨p,l,c,e1,hk⟩:=zfv hs.hp hx h
    rw [hye] at hy
    simp only [Rep] at hy
    refine .inl ⟨.bool (!p.isNone),W,?_,E,s.h,_,hk,hs,Evo.refl _ _ _ _,by simp [Rep,RepD]⟩
    exact hexec _ _ (by rw [e1,hy];simp only [hrunE,hrunN,hrun,Sem.run_bind,Sem.run_pure,Result.andThen_ok])
   ·exact h.elim
  ·exact h.elim
 ·exact zii hs dst ot pos after guard _ _ _ (by unfold zH;exact h)
 ·split at h
  ·rename_i t x _ _ g l ht hx
   obtain ⟨rfl,h⟩:=h
   have ex:=ev_ok hs.slots x (by rw [hx])
   rw [hx] at ex
   simp only [Rep,RepD] at ex
   obtain ⟨q1,q2,q3⟩:=zke hs l
   refine .inl ⟨_,_,?_,_,_,_,h,q1,q2,q3⟩
   simp only [execOp,ex,Sem.run_bind,Instr.range,run_underlying (zaC ht),Result.andThen_ok,Sem.run_pure]
   rfl
  ·exact h.elim
 ·split at h
  ·rename_i x b _ g i hx
   obtain ⟨rfl,rfl,h⟩:=h
   split at h
   ·rename_i l p hi
    have ex:=ev_ok hs.slots x (by rw [hx])
    rw [hx] at ex
    simp only [Rep] at ex
    obtain ⟨b,l',p',g1,g2,g3⟩:=ex
    rw [hi] at g1;cases g1
    have ho:=hs.hp.heap i _ hi
    simp only [RepObj] at ho
    obtain ⟨b',p1,p2⟩:=ho
    rw [g2] at p1;cases p1
    have hlt:=(Array.getElem?_eq_some_iff.1 p2).1
    have hsz:(⟨l.toArray⟩:ByteArray).size=l.length:=by simp [ByteArray.size]
    have hgo:(getObj b).run P W= .ok (.stringIter ⟨l.toArray⟩ p) W:=by simp [getObj,Sem.run,p2]
    split at h
    ·rename_i hp
     obtain ⟨q1,q2⟩:=zp3 (p':=p+(Utf8.decode ⟨l.toArray⟩ p).2) hs hi g2 hlt
     have hso:∀o,(setObj b o).run P W= .ok () (World.row W b o):=fun o=>by simp [setObj,Sem.run,p2,World.row]
     refine .inl ⟨.tuple #[.bool true,.int .i64 p,.int .i32 (Utf8.decode ⟨l.toArray⟩ p).1],_,?_,E,_,_,h,q1,q2,by simp [Rep,Reps,RepD]⟩
     simp only [execOp,g3,Sem.run_bind,Instr.next,hgo,Result.andThen_ok,hsz,hp,if_true,hso,Sem.run_pure,goInt]
    ·rename_i hp
     refine .inl ⟨.tuple #[.bool false],_,?_,E,_,_,h,hs,Evo.refl _ _ _ _,by simp [Rep,Reps,RepD]⟩
     simp only [execOp,g3,Sem.run_bind,Instr.next,hgo,Result.andThen_ok,hsz,hp,if_false,Sem.run_pure]
   ·exact h.elim
  ·exact h.elim
 ·split at h
  ·obtain ⟨q1,q2,q3⟩:=zif hs
   refine .inl ⟨_,_,?_,_,_,_,h,q1,q2,q3⟩
   simp [execOp,Instr.makeMap,newObj,Sem.run]
  ·exact h.elim
 ·split at h
  ·rename_i t m k v _ _ _ _ kt et gm i gk kd gv vd ht hm hk hv
   obtain ⟨rfl,rfl,rfl,hsc,h⟩:=h
   split at h
   ·rename_i es hes
    obtain ⟨h1,h2,h⟩:=h
    have em:=ev_ok hs.slots m (by rw [hm])
    have ek:=ev_ok hs.slots k (by rw [hk])
    have ev':=ev_ok hs.slots v (by rw [hv])
    rw [hm] at em
    rw [hk] at ek
    rw [hv] at ev'
    simp only [Rep] at em ek ev'
    obtain ⟨b,es',g1,g2,g3⟩:=em
    have hes':es'=es:=by
     unfold AS.esOf at hes
     rw [g1] at hes
     simpa using hes
    subst hes'
    have ho:=hs.hp.heap i _ g1
    simp only [RepObj] at ho
    obtain ⟨b',mes,clock,p1,p2,p3⟩:=ho
    rw [g2] at p1
    cases p1
    rw [zaU (zck h1)] at ek
    rw [zaU hsc] at ev'
    obtain ⟨c',hrun⟩:=ze6 (P:=P) (v:=vd) ht p2 p3 h1 h2
    obtain ⟨q1,q2⟩:=zo5 (c':=c') hs g1 g2 p2 (znz p3 (zck h1) hsc clock)
    refine .inr ⟨_,?_,E,_,.any,h,q1,q2,by simp [Rep]⟩
    simp only [execOp,g3,ek,ev',Sem.run_bind,hrun,Result.andThen_ok,Sem.run_pure]
   ·exact h.elim
  ·exact h.elim
 ·exact zik hs dst ot pos after guard _ (by unfold zH;exact h)
 ·exact h.elim
end
open Go
def aeff (fl:Nat) (P:Program) (s:AS) (op:Op) (K:AV→AHeap→Prop):Prop:=
 match op with
 | .alloc t=>zD P t=true∧K (.pt (zI P 12 t) (fresh fl s.h) 0) ((fresh fl s.h,.vr (zI P 12 t) t (zx P 12 t))::s.h)
 | .box t x=>(s.ev x).1=true∧((s.ev x).2.tag P t).cellsOk=true∧K (.pt (zI P 12 t) (fresh fl s.h) 0) ((fresh fl s.h,.vr (zI P 12 t) t ((s.ev x).2.tag P t).cells)::s.h)
 | .build t parts=>
  zD P t=true∧(parts.toList.all fun p=>(s.ev p.2).1)=true∧
  (match (ty P t).td with
  | .struct fs=>
   (fs.all fun f=>(ty P f.2).td≠ .other)=true∧
   let q:=fillL (fun i=>(fs[i]?).map fun f=>(f.1,(ty P f.2).size)) (zx P 12 t) (parts.toList.map fun p=>(p.1,((s.ev p.2).2.tag P ((fs.getD p.1 (0,0)).2))))
   q.1∧K (.agg q.2) s.h
  | .arr _ e=>
   (ty P e).td≠ .other∧
   let q:=fillL (fun i=>some (i*(ty P e).size,(ty P e).size)) (zx P 12 t) (parts.toList.map fun p=>(p.1,((s.ev p.2).2.tag P e)))
   q.1∧K (.agg q.2) s.h
  |_=>False)
 | .buildSlice t len parts=>
  (match (ty P t).td with
  | .slice e=>
   zD P e=true∧(parts.toList.all fun p=>(s.ev p.2).1)=true∧(ty P e).td≠ .other∧(ty P e).size≠0∧len*(ty P e).size≤16777216∧
   let q:=fillL (fun i=>some (i*(ty P e).size,(ty P e).size)) ((List.replicate len (zx P 12 e)).flatten) (parts.toList.map fun p=>(p.1,((s.ev p.2).2.tag P e)))
   let rows:=(List.range len).map fun i=>(q.2.drop (i*(ty P e).size)).take (ty P e).size
   q.1∧(match zfq rows with
    |some ds=>K (.osl (fresh fl s.h) (ty P e).size len 0 len) ((fresh fl s.h,.arr (ty P e).size ds)::s.h)
    |none=>0<len∧K (.asl (ty P e).size rows) s.h)
  |_=>False)
 | .store t x y=>
  (s.ev x).1=true∧(s.ev y).1=true∧(ty P t).td≠ .other∧
  let v:=(s.ev y).2.tag P t
  v.cellsOk=true∧v.cells.length=(ty P t).size∧
  (match (s.ev x).2 with
  | .vp i o=>(match hget s.h i with
   |some (.var cs)=>o+(ty P t).size≤cs.length∧K .any (hset s.h i (.var (putL cs o v.cells)))
   |_=>False)
  | .tp i o=>(match hget s.h i with
   |some (.tvar tt cs)=>o+(ty P t).size≤cs.length∧K .any (hset s.h i (.tvar tt (putL cs o v.cells)))
   |_=>False)
  | .ap i n k r o=>(match hget s.h i with
   |some (.arr k' xs)=>k'=k∧xs.length=n∧r<n∧o+(ty P t).size≤k∧
    (match toDs v.cells with
    |some ds=>K .any (hset s.h i (.arr k' (xs.set r (putL (xs.getD r []) o ds))))
    |none=>False)
   |_=>False)
  |_=>False)
 |op=>zH fl P s op K
section
variable {P : Program} {W : World} {E : Env} {s : AS} {a : Act} {cx : Cx} {K : AV → AHeap → Prop}
theorem zdy {t:TypeId} (hz:zD P t=true):∃z,(∀w,(zeroValue t).run P w= .ok z w)∧Reps W E s.h (zx P 12 t) z.cells.toList∧z.cells.size=(ty P t).size:=by
 obtain ⟨i,z,h1,h2,h3,h4,h5,h6⟩:=zdr hz
 exact ⟨z,fun w=>zbL h1 h2 w,zeq h3,by rw [h5,h6]⟩
theorem zg2 {k:Nat} :∀ {rows:List (List AV)} {ds:List (List D)} {vs:List Value},RepARows W E s.h k rows vs→zfq rows=some ds→RepRows W (Xs E s.h) k ds vs∧ds.length=rows.length
 | [],ds,vs,_,hd=>by simp only [zfq,Option.some.injEq] at hd;subst hd;simp [RepRows]
 | r::rows,ds,vs,hr,hd=>by
  simp only [zfq] at hd
  split at hd
  ·rename_i x xs h1 h2
   cases hd
   simp only [RepARows] at hr
   obtain ⟨h3,h4,h5⟩:=hr
   obtain ⟨h6,h7⟩:=zg2 h5 h2
   have h8:=Reps.toDs h4 h1
   simp only [RepRows]
   refine ⟨⟨?_,h8,h6⟩,by simp [h7]⟩
   rw [← RepDs.length h8,Reps.length h4,h3]
  ·cases hd
theorem zap {α:Type} {l:List α} {k:Nat} (hk:l.length=k):∀ (n i:Nat),i<n*k→((List.replicate n l).flatten)[i]?=l[i % k]?
 |0,i,hi=>by simp at hi
 | n+1,i,hi=>by
  rw [Nat.succ_mul] at hi
  simp only [List.replicate_succ,List.flatten_cons]
  by_cases h1:i<k
  ·rw [List.getElem?_append_left (by omega),Nat.mod_eq_of_lt h1]
  ·rw [List.getElem?_append_right (by omega),hk,zap hk n (i - k) (by omega)]
   rw [← Nat.mod_eq_sub_mod (by omega)]
theorem zlm {t:TypeId} {z:Value} {k n:Nat} (h2:Reps W E s.h (zx P 12 t) z.cells.toList) (h3:z.cells.size=k):
  Reps W E s.h ((List.replicate n (zx P 12 t)).flatten) ((Array.range (n*k)).map (z.cells[· % z.cells.size]!)).toList:=by
 have hl:=Reps.length h2
 have hz:(zx P 12 t).length=k:=by rw [← hl,← h3];simp
 refine Reps.of_get (by simp [hz]) (fun j hj=>?_)
 have hj':j<n*k:=by simpa [hz] using hj
 have hk:0<k:=by
  rcases Nat.eq_zero_or_pos k with h0|h0
  ·subst h0;simp at hj'
  ·exact h0
 have hlt:j % k<k:=Nat.mod_lt _ hk
 obtain ⟨v,hv,hr⟩:=Reps.get h2 (getD_some (d:=AV.any) (show j % k<(zx P 12 t).length by omega))
 refine ⟨v,?_,?_⟩
 ·have hv':z.cells[j % k]?=some v:=by rw [← Array.getElem?_toList];exact hv
  simp only [Array.toList_map,Array.toList_range,List.getElem?_map,List.getElem?_range hj',Option.map_some,Option.some.injEq,h3]
  rw [getElem!_def,hv']
 ·rw [List.getD_eq_getElem?_getD,zap hz n j hj',← List.getD_eq_getElem?_getD]
  exact hr
theorem zln {k:Nat} (hk:k≠0):∀ (n o:Nat) {cs:List AV} {vs:List Value},Reps W E s.h cs vs→cs.length=(o+n)*k→
  RepARows W E s.h k ((List.range' o n).map fun i=>(cs.drop (i*k)).take k) (vs.drop (o*k))
 |0,o,cs,vs,_,_=>by simp [RepARows]
 |n+1,o,cs,vs,hr,hl=>by
  simp only [List.range'_succ,List.map_cons,RepARows]
  have hlen:cs.length=o*k+n*k+k:=by rw [hl,Nat.add_mul,Nat.succ_mul];omega
  refine ⟨by simp;omega,(hr.drop _).take _,?_⟩
  rw [List.drop_drop,show o*k+k=(o+1)*k by rw [Nat.succ_mul]]
  exact zln hk n (o+1) hr (by rw [hl];congr 1;omega)
theorem zfY (hs:Slots W E s a) (tagf:Nat→TypeId) {parts:Array (Nat×Operand)} (hg:(parts.toList.all fun p=>(s.ev p.2).1)=true):
  (parts.toList.map fun p=>(p.1,(s.ev p.2).2.tag P (tagf p.1))).length=((parts.map fun (i,x)=>(i,a.eval x)).toList).length∧
  ∀ (j i:Nat) (x:AV),(parts.toList.map fun p=>(p.1,(s.ev p.2).2.tag P (tagf p.1)))[j]?=some (i,x)→∃v,((parts.map fun (i,x)=>(i,a.eval x)).toList)[j]?=some (i,v)∧Rep W E s.h x v:=by
 refine ⟨by simp,fun j i x hj=>?_⟩
 simp only [List.getElem?_map,Option.map_eq_some_iff,Prod.mk.injEq] at hj
 obtain ⟨p,hp,rfl,rfl⟩:=hj
 have hm:p∈parts.toList:=List.mem_of_getElem? hp
 have:=List.all_eq_true.1 hg p hm
 exact ⟨a.eval p.2,by simp [hp],Rep.tag (ev_ok hs p.2 this)⟩
theorem zo6 (hs:Sat cx E s a W) (o:Oper) (h:aeff cx.fl P s o.op K):Does P (execOp a.eval o) W (zdw cx E s a W K):=by
 obtain ⟨dst,op,ot,pos,after,guard⟩:=o
 dsimp only at h
 unfold aeff at h
 split at h
 ·-- alloc
  rename_i t
  obtain ⟨hz,hk⟩:=h
  obtain ⟨z,h1,h2,h3⟩:=zdy (W:=W) (E:=E) (s:=s) hz
  obtain ⟨q1,q2,q3⟩:=zfp hs h2 (zI P 12 t) t
  refine .inl ⟨.pointer (some ⟨W.heap.size,0,none⟩),W.alloc (.cells z.cells t),?_,_,_,_,hk,q1,q2,q3⟩
  simp [execOp,Instr.alloc,h1,newVar,newRow]
 ·-- box
  rename_i t x
  obtain ⟨hg,hc,hk⟩:=h
  have hx:Rep W E s.h ((s.ev x).2.tag P t) (a.eval x):=Rep.tag (ev_ok hs.slots x hg)
  obtain ⟨h2,_⟩:=hx.cells hc
  obtain ⟨q1,q2,q3⟩:=zfp hs h2 (zI P 12 t) t
  refine .inl ⟨.pointer (some ⟨W.heap.size,0,none⟩),W.alloc (.cells (a.eval x).cells t),?_,_,_,_,hk,q1,q2,q3⟩
  simp [execOp,Instr.box,newVar,newRow]
 ·-- build
  rename_i t parts
  obtain ⟨hz,hg,h⟩:=h
  obtain ⟨z,h1,h2,h3⟩:=zdy (W:=W) (E:=E) (s:=s) hz
  split at h
  ·rename_i fs ht
   obtain ⟨hfs,hq,hk⟩:=h
   obtain ⟨gs,hu,hgs,_⟩:=zbw ht
   have hmap:∀w,(gs.mapM fun (f:Field)=>do pure (f.offset,← sizeOf f.type)).run P w= .ok (gs.map fun (f:Field)=>(f.offset,(ty P f.type).size)) w:=by
    intro w
    have:∀ (l:List Field),(∀f∈l,(ty P f.type).td≠ .other)→∀w,(l.mapM fun (f:Field)=>do pure (f.offset,← sizeOf f.type):Sem (List (Nat×Nat))).run P w= .ok (l.map fun (f:Field)=>(f.offset,(ty P f.type).size)) w:=by
     intro l
     induction l with
     |nil=>intro _ w;simp
     |cons f l ih=>
      intro hl w
      obtain ⟨d,hd⟩:=zak (hl f (by simp))
      simp only [List.mapM_cons,Sem.run_bind,zo hd,Result.andThen_ok,Sem.run_pure,ih (fun g hg=>hl g (by simp [hg])),List.map_cons]
    rw [Array.mapM_eq_mapM_toList]
    simp only [Sem.run_map]
    rw [this gs.toList (fun f hf=>by
     have:=List.all_eq_true.1 hfs (f.offset,f.type) (by rw [← hgs];exact List.mem_map_of_mem hf)
     simpa using this)]
    simp only [Result.andThen_ok]
    rw [← Array.toList_map]
   obtain ⟨c',g1,g2⟩:=zfU (pl:=fun i=>(fs[i]?).map fun f=>(f.1,(ty P f.2).size)) _ _ _ z.cells hq h2 (zfY (P:=P) hs.slots (fun i=>(fs.getD i (0,0)).2) hg)
   have hpl:(fun (i:Nat)=>(fs[i]?).map fun (f:Nat×Nat)=>(f.1,(ty P f.2).size))=(fun i=>(gs.map fun (f:Field)=>(f.offset,(ty P f.type).size))[i]?):=by
    funext i
    rw [← hgs]
    simp only [List.getElem?_map,Array.getElem?_map,Option.map_map,Array.getElem?_toList]
    rfl
   rw [hpl] at g1
   refine .inl ⟨.agg c',W,?_,E,s.h,_,hk,hs,Evo.refl _ _ _ _,?_⟩
   ·simp only [execOp,Instr.build,Sem.run_bind,h1,Result.andThen_ok,run_underlying hu,hmap,g1,Sem.run_pure]
   ·simp only [Rep];exact ⟨c',rfl,g2⟩
  ·rename_i n e ht
   obtain ⟨he,hq,hk⟩:=h
   obtain ⟨de,hde⟩:=zak he
   obtain ⟨c',g1,g2⟩:=zfU (pl:=fun i=>some (i*(ty P e).size,(ty P e).size)) _ _ _ z.cells hq h2 (zfY (P:=P) hs.slots (fun _=>e) hg)
   refine .inl ⟨.agg c',W,?_,E,s.h,_,hk,hs,Evo.refl _ _ _ _,?_⟩
   ·simp only [execOp,Instr.build,Sem.run_bind,h1,Result.andThen_ok,run_underlying (zba ht),zo hde,g1,Sem.run_pure]
   ·simp only [Rep];exact ⟨c',rfl,g2⟩
  ·exact h.elim
 ·-- buildSlice
  rename_i t len parts
  split at h
  ·rename_i e ht
   obtain ⟨hz,hg,he,hk0,hsm,hq,hk⟩:=h
   obtain ⟨z,h1,h2,h3⟩:=zdy (W:=W) (E:=E) (s:=s) hz
   obtain ⟨de,hde⟩:=zak he
   have hk1:z.cells.size=(ty P e).size:=h3
   have hz0:=zlm (n:=len) h2 hk1
   obtain ⟨c',g1,g2⟩:=zfU (pl:=fun i=>some (i*(ty P e).size,(ty P e).size)) _ _ _ _ hq hz0 (zfY (P:=P) hs.slots (fun _=>e) hg)
   have hzl:(zx P 12 e).length=(ty P e).size:=by have:=Reps.length h2;simp at this;omega
   have hfl:∀ (pl:Nat→Option (Nat×Nat)) (ps:List (Nat×AV)) (cs:List AV),(fillL pl cs ps).2.length=cs.length:=by
    intro pl ps
    induction ps with
    |nil=>intro cs;rfl
    |cons p ps ih=>
     intro cs
     obtain ⟨i,v⟩:=p
     simp only [fillL]
     cases pl i with
     |none=>rfl
     |some q=>simp only;rw [ih,zbb]
   have hrows:=zln (W:=W) (E:=E) (s:=s) hk0 len 0 g2 (by rw [hfl];simp [hzl])
   rw [← List.range_eq_range',Nat.zero_mul,List.drop_zero] at hrows
   have hcl:c'.size=len*(ty P e).size:=by have:=Reps.length g2;rw [hfl] at this;simp [hzl] at this;exact this
   have hrun:(execOp a.eval ⟨dst,.buildSlice t len parts,ot,pos,after,guard⟩).run P W= .ok (.value (.slice (some ⟨W.heap.size,0,none⟩) len len)) (W.alloc (.cells c' e)):=by
    have hn:¬len*(ty P e).size>2 ^ 24:=by omega
    have g1':Instr.fill (fun i=>some (i*(ty P e).size,(ty P e).size)) ((Array.range (len*(ty P e).size)).map ((if len*(ty P e).size=0 then #[] else z.cells)[· % (if len*(ty P e).size=0 then #[] else z.cells).size]!)) (parts.map fun (i,x)=>(i,a.eval x)).toList=some c':=by
     rw [← g1]
     congr 1
     by_cases h0:len*(ty P e).size=0
     ·simp [h0]
     ·simp [h0]
    simp only [execOp,Instr.buildSlice,Sem.run_bind,run_underlying (zq ht),zo hde,Result.andThen_ok,Sem.run_ite,hn,if_false,Sem.run_pure]
    by_cases h0:len*(ty P e).size=0
    ·simp only [h0,if_true] at g1' ⊢
     simp only [Sem.run_pure,Result.andThen_ok,g1',newRow,Sem.run_bind,run_newObj,World.alloc_eq]
    ·simp only [h0,if_false] at g1' ⊢
     simp only [Sem.run_bind,h1,Sem.run_pure,Result.andThen_ok,g1',newRow,run_newObj,World.alloc_eq]
   split at hk
   ·rename_i ds hds
    obtain ⟨r1,r2⟩:=zg2 hrows hds
    have r2':ds.length=len:=by simpa using r2
    obtain ⟨q1,q2,q3⟩:=zcD hs r1 (cap:=len) (by omega) hcl e _ rfl
    rw [r2'] at q3
    exact .inl ⟨_,_,hrun,_,_,_,hk,q1,q2,q3⟩
   ·obtain ⟨h0,hk⟩:=hk
    obtain ⟨q1,q2,q3⟩:=zgY hs (.cells c' e)
    refine .inl ⟨_,_,hrun,E,s.h,_,hk,q1,q2,?_⟩
    simp only [Rep]
    refine ⟨⟨W.heap.size,0,none⟩,len,c',e,(0,0),by simp,rfl,by simp,?_,zaV _ _,?_⟩
    ·rintro (hx|hx|hx)
     ·have:=(hs.hp.own _ hx).1;simp at this
     ·have:=hs.hp.mlt _ hx;simp at this
     ·have:=hs.hp.nlt _ hx;simp at this
    ·rw [List.drop_zero]
     refine RepARows.step (fun _ _ hx=>hx) (fun b hb _=>?_) _ _ _ (fun j _=>GoesOn.refl E s.h j) hrows
     show (W.heap.push _)[b]?=_
     rw [Array.getElem?_push,if_neg (by omega)]
  ·exact h.elim
 ·-- store
  rename_i t x y
  obtain ⟨hgx,hgy,ht,hc,hsz,h⟩:=h
  have hx:=ev_ok hs.slots x hgx
  have hy:Rep W E s.h ((s.ev y).2.tag P t) (a.eval y):=Rep.tag (ev_ok hs.slots y hgy)
  obtain ⟨hcs,h1c⟩:=hy.cells hc
  have hvs:(a.eval y).cells.size=(ty P t).size:=by
   have:=Reps.length hcs
   simp at this;omega
  split at h
  ·rename_i i o hxe
   rw [hxe] at hx
   split at h
   ·rename_i cs hi
    obtain ⟨hl,hk⟩:=h
    simp only [Rep] at hx
    obtain ⟨b,cs',hi',hb,hv⟩:=hx
    rw [hi] at hi';cases hi'
    obtain ⟨b',c,T,fz,g1,g2,g3,g4⟩:=hs.hp.var hi
    rw [hb] at g1;cases g1
    obtain ⟨q1,q2⟩:=zo2 hs hi hcs hb g2 (o:=o)
    have hcl:=Reps.length g3
    refine .inr ⟨_,?_,E,_,.any,hk,q1,q2,by simp [Rep]⟩
    simp only [execOp,hv,Instr.storeAt,Instr.sureAddr,Sem.run_bind,Sem.run_pure,Result.andThen_ok]
    rw [zb2 ht g2 g4 hvs (by simp at hcl;omega) h1c]
    rfl
   ·exact h.elim
  ·rename_i i o hxe
   rw [hxe] at hx
   split at h
   ·rename_i tt cs hi
    obtain ⟨hl,hk⟩:=h
    simp only [Rep] at hx
    obtain ⟨b,t',cs',hi',hb,hv⟩:=hx
    rw [hi] at hi';cases hi'
    obtain ⟨b',c,T,fz,g1,g2,g3,g4,g5⟩:=hs.hp.tvar hi
    rw [hb] at g1;cases g1
    obtain ⟨q1,q2⟩:=zny hs hi hcs hb g2 (o:=o)
    have hcl:=Reps.length g3
    refine .inr ⟨_,?_,E,_,.any,hk,q1,q2,by simp [Rep]⟩
    simp only [execOp,hv,Instr.storeAt,Instr.sureAddr,Sem.run_bind,Sem.run_pure,Result.andThen_ok]
    rw [zb2 ht g2 g4 hvs (by simp at hcl;omega) h1c]
    rfl
   ·exact h.elim
  ·rename_i i n k r o hxe
   rw [hxe] at hx
   split at h
   ·rename_i k' xs hi
    obtain ⟨rfl,hn,hr,hl,h⟩:=h
    split at h
    ·rename_i ds hds
     simp only [Rep] at hx
     obtain ⟨-,xs',hi',_,hv⟩:=hx
     rw [hi] at hi';cases hi'
     obtain ⟨b,hb,hv⟩:=hv hn
     have hob:=hs.hp.heap i _ hi
     simp only [RepObj] at hob
     rcases hob with ⟨h0,_⟩|⟨b',c,T,fz,g1,g2,g3,g4,g5,g6⟩
     ·rw [h0] at hb;cases hb
     rw [hb] at g1;cases g1
     have hul:(a.eval y).cells.toList.length=(ty P t).size:=by simpa using hvs
     obtain ⟨q1,q2⟩:=zie hs hi (Reps.toDs hcs hds) (r:=r) (o:=o) (by omega) (by omega) hb g2
     have hrow:=RepRows.length_le g5
     refine .inr ⟨_,?_,E,_,.any,h,q1,q2,by simp [Rep]⟩
     simp only [execOp,hv,Instr.storeAt,Instr.sureAddr,Sem.run_bind,Sem.run_pure,Result.andThen_ok]
     have hrk:r*k'+k'≤xs.length*k':=by
      rw [← Nat.succ_mul];exact Nat.mul_le_mul_right _ (by omega)
     rw [zb2 ht g2 g6 hvs (by simp at hrow;omega) h1c]
     rfl
    ·exact h.elim
   ·exact h.elim
  ·exact h.elim
 ·exact zll hs _ h
end
open Go
def zbj (P:Program) (f:FuncId):Prop:=∀args w,(callFunc f args).run P w= .ok (.enter f args) w
structure EvoC (fl:Nat) (E:Env) (h:AHeap) (w:World) (E':Env) (h':AHeap) (w':World):Prop where
 os:w'.os=w.os
 tape:w'.tape=w.tape
 output:w'.output=w.output
 size:w.heap.size≤w'.heap.size
 keep:∀b,b<w.heap.size→¬Own E h b→w'.heap[b]?=w.heap[b]?
 own:∀b,Own E' h' b→Own E h b∨w.heap.size≤b
 m:E'.M=E.M
 n:E'.N=E.N
 go:∀i,i<fl→(hget h' i).isSome→(hget h i).isSome∧GoesOn E h E' h' i
def ACall (P:Program) (f:FuncId) (fl:Nat) (args:List AV) (h:AHeap) (K:AV→AHeap→Prop):Prop:=
 zbj P f∧∀E w (vs:Array Value),SatH E h w→Reps w E h args vs.toList→
  Calls P f vs w (fun e w'=>∃v E' r h',e= .returned v∧K r h'∧SatH E' h' w'∧Rep w' E' h' r v∧EvoC fl E h w E' h' w')
def ACallAt (P:Program) (fl:Nat) (f:FuncId) (args:List AV) (h:AHeap) (K:AV→AHeap→Prop):Prop:=
 zbj P f∧∀E w (vs:Array Value),SatH E h w→Reps w E h args vs.toList→
  Calls P f vs w (fun e w'=>∃v E' r h',e= .returned v∧K r h'∧SatH E' h' w'∧Rep w' E' h' r v∧EvoC fl E h w E' h' w'∧
   (∀x y,Rep w E h x y→Rep w' E' h' x y))
def zlo (P:Program) (t:TypeId) (m:String):Option FuncId:=
 match P.info? t,P.underlying t with
 | some i,some d=>(match i.methods.find? (·.name==m) with
  |some r=>(match r.func,r.path.isEmpty,d with
   |_,_,.pointer _=>none
   |some (f,false),true,_=>some f
   |_,_,_=>none)
  |none=>none)
 |_,_=>none
theorem zkf {P:Program} {t:TypeId} {m:String} {f:FuncId} (h:zlo P t m=some f) (n:Nat) (v:Value) (w:World):(method (n+1) t v m).run P w= .ok (f,v) w:=by
 unfold zlo at h
 split at h
 ·rename_i i d hi hd
  split at h
  ·rename_i r hr
   unfold method
   rw [Sem.run_bind,run_typeInfo w hi]
   simp only [Result.andThen_ok,hr]
   split at h
   ·cases h
   ·rename_i d' f' hf hp hnp
    simp only [Option.some.injEq] at h
    subst h
    have hpl:r.path.toList= []:=by simpa using hp
    rw [hpl]
    simp only [follow,Sem.run_pure,Sem.run_bind,Result.andThen_ok,hf,receiverAt,run_underlying hd]
    simp only [Place.get,Sem.run_pure,Result.andThen_ok]
   ·cases h
  ·cases h
 ·cases h
def z6 (P:Program) (s:AS) (c:Call):Option (FuncId×List AV×Prop):=
  match c.callee with
  | .value f=>match s.ev f with
    |(g,.fn (.func n) fs cs)=>some (n,fs++((c.args.toList.zip (c.argTypes.toList++List.replicate c.args.size 0)).map fun p=>(s.ev p.1).2.tag P p.2)++cs,g=true∧(c.args.toList.all fun x=>(s.ev x).1)=true)
    |_=>none
  | .invoke r m=>match s.ev r with
    | (g,.iface t x)=>(match zlo P t m with
      |some n=>some (n,x::((c.args.toList.zip (c.argTypes.toList++List.replicate c.args.size 0)).map fun p=>(s.ev p.1).2.tag P p.2),g=true∧(c.args.toList.all fun x=>(s.ev x).1)=true)
      |none=>none)
    |_=>none
  |_=>none
def zbk:Op→Bool
 | .binOp .. | .unOp .. | .makeInterface .. | .makeFunc .. | .field .. | .fieldAddr .. | .indexAddr .. | .index .. | .slice .. | .load .. | .nilCheck .. | .extract .. | .lookup .. | .typeAssert .. =>true
 | .convert .. =>true
 | .call c=>match c.callee with
  | .builtin .len=>true
  | .builtin .min=>true
  | .builtin .max=>true
  |_=>false
 |_=>false
def isVal (P:Program) (op:Op):Bool:=zbk op&& !isX P op
theorem zby {P:Program} {s:AS} {c:Call} {q:FuncId×List AV×Prop} (h:z6 P s c=some q):isVal P (.call c)=false:=by
 unfold z6 at h
 cases hc:c.callee<;>rw [hc] at h<;>first|cases h;done|simp [isVal,zbk,hc]
def known (s:AS):Operand→Bool
 | .tmp t=>(lk s.t t).isSome
 |_=>true
def dstOk (nt:Nat):Option Nat→Prop
 |some d=>d<nt
 |none=>True
def AV.isB:AV→Bool
 | .d (.bool _)=>true
 |_=>false
def AV.toB:AV→Bool
 | .d (.bool x)=>x
 |_=>false
theorem AV.isB_eq {v:AV} (h:v.isB=true):v= .d (.bool v.toB):=by
 unfold AV.isB at h
 split at h
 ·rfl
 ·cases h
def aop1 (cx:Cx) (o:Oper) (K:AS→Prop) (s:AS):Prop:=
 match o.op with
 | .move x=>known s x=true∧K (s.put o.dst (s.ev x).1 ((s.ev x).2.tag cx.P o.type))
 | .assign x=>known s x=true∧K (s.put o.dst (s.ev x).1 ((s.ev x).2.tag cx.P o.type))
 | .pick c a b=>(match s.ev c with
  |(gc,.d (.bool c))=>gc=true∧(c=true→(s.ev a).1=true∧(s.ev a).2.isB=true)∧(c=false→(s.ev b).1=true∧(s.ev b).2.isB=true)∧K (s.put o.dst true (.d (.bool (bif c then (s.ev a).2.toB else (s.ev b).2.toB))))
  |_=>False)
 | .call c=>if isVal cx.P (.call c) then (aval cx.P s (.call c)).1∧K (s.put o.dst true (aval cx.P s (.call c)).2) else
  (match z6 cx.P s c with
  |some (f,args,vc)=>vc∧ACallAt cx.P cx.fl f args s.h (fun r h'=>K ({ s with h:=h' }.put o.dst true r))
  |none=>aeff cx.fl cx.P s (.call c) (fun r h'=>K ({ s with h:=h' }.put o.dst true r)))
 |op=>if isVal cx.P op then (aval cx.P s op).1∧K (s.put o.dst true (aval cx.P s op).2)
  else aeff cx.fl cx.P s op (fun r h'=>K ({ s with h:=h' }.put o.dst true r))
def aop (cx:Cx) (G:Bool) (o:Oper) (K:AS→Prop) (s:AS):Prop:=
 dstOk cx.nt o.dst∧
 match o.op with
 | .move x=>known s x=true∧K (s.put o.dst (G&&(s.ev x).1) ((s.ev x).2.tag cx.P o.type))
 | .assign x=>known s x=true∧K (s.put o.dst (G&&(s.ev x).1) ((s.ev x).2.tag cx.P o.type))
 | .pick c a b=>(match s.ev c with
  |(gc,.d (.bool c))=>(G=true→gc=true∧(c=true→(s.ev a).1=true∧(s.ev a).2.isB=true)∧(c=false→(s.ev b).1=true∧(s.ev b).2.isB=true))∧K (s.put o.dst G (.d (.bool (bif c then (s.ev a).2.toB else (s.ev b).2.toB))))
  |_=>False)
 |op=>if isVal cx.P op then (G=true→(aval cx.P s op).1)∧K (s.put o.dst G (aval cx.P s op).2)
  else (G=true→aop1 cx o K s)∧(G=false→K (s.put o.dst false .any))
def zaa (s:AS) (all:Array Oper):Option (Nat×Bool)→Option Bool
 |none=>some true
 | some (j,want)=>match (all[j]?).bind (·.dst) with
  |some d=>match lk s.t d with
   |some (g,.d (.bool b))=>some (g&&(b==want))
   |some (false,_)=>some false
   |_=>none
  |none=>none
section
variable {cx : Cx} {E : Env} {s : AS} {a : Act} {w : World}
theorem zfZ {ro:Option Nat} {P:Program} {f:FuncId} {args:Array Value} {w:World} {R:Ending→World→Prop} (n:Nat) (h:Calls P f args w R):CallsIn { Fence.wide with round:=ro } n P f args w R:=callsIn_wide.2 h
theorem EvoC.evo {fl:Nat} {h h':AHeap} {E':Env} {w':World} (c:EvoC fl E h w E' h' w'):Evo fl E h w E' h' w':=
 ⟨c.os,c.tape,c.output,c.size,fun b hb ho _=>c.keep b hb ho,c.own,fun b hb=>by rwa [c.m],fun b hb=> .inl (by rwa [← c.m]),c.n,c.go⟩
theorem Sat.call {h':AHeap} {E':Env} {w':World} (hs:Sat cx E s a w) (hh:SatH E' h' w') (c:EvoC cx.fl E s.h w E' h' w') (hrep:∀x y,Rep w E s.h x y→Rep w' E' h' x y):Sat cx E' { s with h:=h' } a w' where
 slots:=fun k g v hk=>by
  obtain ⟨x,h1,h2,h3⟩:=hs.slots k g v hk
  exact ⟨x,h1,fun e=>hrep _ _ (h2 e),h3⟩
 nt:=hs.nt
 hp:=hh
 base:=⟨Nat.le_trans hs.base.1 c.size,hs.base.2⟩
 marks:=hs.marks.step (fun b _ hb=>by rwa [← c.m]) (fun r hr hm=>c.keep r (Array.getElem?_eq_some_iff.1 hr).1 (hs.hp.not_mark hr))
 ghost:=by
  rw [c.m,c.n]
  exact cx.stab _ _ _ _ _ _ _ (fun b hb ho=>c.keep b hb (fun h=>ho (.inl h))) (fun b hb=>hb.elim (fun hb=>(c.own b hb).imp .inl id) (fun hb=> .inl (.inr hb))) (fun b hb=>hb.elim (fun h=>(hh.own b h).1) (fun h=>Nat.lt_of_lt_of_le (hs.marks.lt h) c.size)) c.size c.tape c.os c.output hs.ghost
theorem Does.wpIn {o:Oper} {R:Value→World→Prop} {Q:Exit→Act→World→Prop} {next:Act→World→Prop} (hd:∀c,o.op≠ .defer c) (h:Does cx.P (execOp a.eval o) w R) (hn:∀v w',R v w'→next (a.put o.dst v) w'):
  o.wpIn cx.F 0 cx.P a w next Q:=by
 refine ⟨fun _ _=>trivial,?_⟩
 rw [Oper.semAt_eq _ _ _ hd]
 rcases h with ⟨v,w',h1,h2⟩|⟨w',h1,h2⟩
 ·rw [h1];exact hn v w' h2
 ·rw [h1];exact hn undef w' h2
theorem zfw {o:Oper} {c:Call} (hop:o.op= .call c) {f:FuncId} {args:List AV} {vc:Prop} (hs:Sat cx E s a w) (hco:z6 cx.P s c=some (f,args,vc)) (hvc:vc) (hen:zbj cx.P f):
  ∃vs:Array Value,Reps w E s.h args vs.toList∧(execOp a.eval o).run cx.P w= .ok (.enter f vs) w:=by
 obtain ⟨dst,op,ot,pos,after,guard⟩:=o
 dsimp only at hop
 subst hop
 obtain ⟨callee,cargs,ctypes⟩:=c
 have hargs:(cargs.toList.all fun x=>(s.ev x).1)=true→Reps w E s.h ((cargs.toList.zip (ctypes.toList++List.replicate cargs.size 0)).map fun p=>(s.ev p.1).2.tag cx.P p.2) (cargs.toList.map a.eval):=fun hall=>by
  have key:∀ (l:List Operand) (ts:List TypeId),l.length≤ts.length→(l.all fun x=>(s.ev x).1)=true→Reps w E s.h ((l.zip ts).map fun p=>(s.ev p.1).2.tag cx.P p.2) (l.map a.eval):=by
   intro l
   induction l with
   |nil=>intro ts _ _;simp [Reps]
   | cons x l ih=>
    intro ts hl ha
    cases ts with
    |nil=>simp at hl
    |cons t ts=>
     simp only [List.all_cons,Bool.and_eq_true] at ha
     simp only [List.zip_cons_cons,List.map_cons,Reps]
     exact ⟨_,_,rfl,Rep.tag (ev_ok hs.slots x ha.1),ih ts (by simpa using hl) ha.2⟩
  exact key _ _ (by simp) hall
 cases callee with
 |builtin b=>simp [z6] at hco
 | invoke ro m=>
  simp only [z6] at hco
  split at hco
  case h_2=>cases hco
  case h_1 g t x hef=>
   split at hco
   case h_2=>cases hco
   case h_1 n hme=>
    simp only [Option.some.injEq,Prod.mk.injEq] at hco
    obtain ⟨rfl,rfl,rfl⟩:=hco
    obtain ⟨hg,hall⟩:=hvc
    have hf:=ev_ok hs.slots ro (by rw [hef];exact hg)
    rw [hef] at hf
    simp only [Rep] at hf
    obtain ⟨y,hfv,hy⟩:=hf
    refine ⟨#[y]++cargs.map a.eval,by
     have ht:(#[y]++cargs.map a.eval:Array Value).toList=y::cargs.toList.map a.eval:=by rw [Array.toList_append,Array.toList_map];rfl
     rw [ht,Reps]
     exact ⟨y,_,rfl,hy,hargs hall⟩,?_⟩
    have h0:(#[Value.iface t y]++cargs.map a.eval:Array Value)[0]?=some (Value.iface t y):=by rw [← Array.getElem?_toList,Array.toList_append];rfl
    have h1:(#[Value.iface t y]++cargs.map a.eval:Array Value).extract 1 (#[Value.iface t y]++cargs.map a.eval:Array Value).size=cargs.map a.eval:=by simp
    obtain ⟨dp,hd⟩:∃dp,Made.depth=dp+1:=⟨_,rfl⟩
    have hp:(program).run cx.P w= .ok cx.P w:=rfl
    simp only [execOp,resolve,Sem.run_bind,Sem.run_pure,Result.andThen_ok,invoke,hfv]
    rw [h0,h1]
    simp only [callMethod,Sem.run_bind,hp,Result.andThen_ok,hd,← Nat.add_assoc,zkf hme]
    exact hen _ _
 | value fo=>
  simp only [z6] at hco
  split at hco
  case h_2=>cases hco
  case h_1 g n fs cs hef=>
   simp only [Option.some.injEq,Prod.mk.injEq] at hco
   obtain ⟨rfl,rfl,rfl⟩:=hco
   obtain ⟨hg,hall⟩:=hvc
   have hf:=ev_ok hs.slots fo (by rw [hef];exact hg)
   rw [hef] at hf
   simp only [Rep] at hf
   obtain ⟨pf,qc,hfv,hfs,hcs⟩:=hf
   refine ⟨pf++cargs.map a.eval++qc,by simp only [Array.toList_append,Array.toList_map];exact (hfs.append (hargs hall)).append hcs,?_⟩
   simp only [execOp,resolve,hfv,Deferred.ofValue,Sem.run_bind,Sem.run_pure,Result.andThen_ok,invoke]
   exact hen _ _
theorem zcF {o:Oper} {K:AS→Prop} {Q:Exit→Act→World→Prop} (hs:Sat cx E s a w) (hd:dstOk cx.nt o.dst) (h:aop1 cx o K s):o.wpIn cx.F 0 cx.P a w (Reach cx E s.h w K) Q:=by
 have hdst:∀k,o.dst=some k→k<cx.nt:=fun k e=>by rw [e] at hd;exact hd
 have hval:(aval cx.P s o.op).1→K (s.put o.dst true (aval cx.P s o.op).2)→(∀c,o.op≠ .defer c)→o.wpIn cx.F 0 cx.P a w (Reach cx E s.h w K) Q:=by
  intro h1 h2 h3
  obtain ⟨v,hv,hr⟩:=zic hs.hp hs.slots o h1
  refine Does.wpIn h3 (R:=fun v' w'=>v'=v∧w'=w) (.inl ⟨v,w,hv,rfl,rfl⟩) ?_
  rintro v' w' ⟨rfl,rfl⟩
  exact ⟨E,_,h2,hs.put hdst (fun _=>hr) (fun e=>by cases e),by cases o.dst<;>exact Evo.refl _ _ _ _⟩
 have heff:aeff cx.fl cx.P s o.op (fun r h'=>K ({ s with h:=h' }.put o.dst true r))→(∀c,o.op≠ .defer c)→o.wpIn cx.F 0 cx.P a w (Reach cx E s.h w K) Q:=by
  intro h1 h3
  refine Does.wpIn h3 (zo6 hs o h1) ?_
  rintro v w' ⟨E',h',x,hk,hs',he,hr⟩
  exact ⟨E',_,hk,hs'.put hdst (fun _=>hr) (fun e=>by cases e),by cases o.dst<;>exact he⟩
 have hmove:∀x,(execOp a.eval o=pure (.value (a.eval x)))→(∀c,o.op≠ .defer c)→(known s x=true∧K (s.put o.dst (s.ev x).1 ((s.ev x).2.tag cx.P o.type)))→o.wpIn cx.F 0 cx.P a w (Reach cx E s.h w K) Q:=by
  rintro x he h3 ⟨hkn,hk⟩
  refine Does.wpIn h3 (R:=fun v' w'=>v'=a.eval x∧w'=w) (.inl ⟨a.eval x,w,by rw [he];rfl,rfl,rfl⟩) ?_
  rintro v' w' ⟨rfl,rfl⟩
  refine ⟨E,_,hk,hs.put hdst (fun e=>Rep.tag (ev_ok hs.slots x e)) (fun e=>?_),by cases o.dst<;>exact Evo.refl _ _ _ _⟩
  cases x with
  | tmp t=>
   simp only [AS.ev] at e
   cases hl:lk s.t t with
   |none=>simp [known,hl] at hkn
   |some p=>
    obtain ⟨g,v⟩:=p
    simp only [hl,Option.getD_some] at e
    obtain ⟨y,hy,_,hu⟩:=hs.slots t g v hl
    simp only [Act.eval]
    rw [show a.tmps.getD t undef=y by simp [hy]]
    exact hu e
  |const v=>simp [AS.ev] at e
  |func f=>simp [AS.ev] at e
  |global g=>simp [AS.ev] at e
 obtain ⟨dst,op,ot,pos,after,guard⟩:=o
 unfold aop1 at h
 dsimp only at h hval heff hmove
 split at h
 ·exact hmove _ rfl (by simp) h
 ·exact hmove _ rfl (by simp) h
 ·rename_i c x y
  split at h
  ·rename_i gc c' ec
   obtain ⟨h1,h2,h3,h4⟩:=h
   obtain ⟨x',ex'⟩:∃x',(s.ev x).2.toB=x':=⟨_,rfl⟩
   obtain ⟨y',ey'⟩:∃y',(s.ev y).2.toB=y':=⟨_,rfl⟩
   rw [ex',ey'] at h4
   have hc:=ev_ok hs.slots c (by rw [ec];exact h1)
   rw [ec] at hc
   simp only [Rep,RepD] at hc
   have hv:∃v,(execOp a.eval ⟨dst,.pick c x y,ot,pos,after,guard⟩).run cx.P w= .ok (.value v) w∧v= .bool (bif c' then x' else y'):=by
    cases c' with
    |true=>
     have hx:=ev_ok hs.slots x (h2 rfl).1
     rw [AV.isB_eq (h2 rfl).2,ex'] at hx
     simp only [Rep,RepD] at hx
     exact ⟨a.eval x,by simp [execOp,hc,asBool],by simpa using hx⟩
    |false=>
     have hy:=ev_ok hs.slots y (h3 rfl).1
     rw [AV.isB_eq (h3 rfl).2,ey'] at hy
     simp only [Rep,RepD] at hy
     exact ⟨a.eval y,by simp [execOp,hc,asBool],by simpa using hy⟩
   obtain ⟨v,hv1,rfl⟩:=hv
   refine Does.wpIn (by simp) (R:=fun v' w'=>v'= .bool (bif c' then x' else y')∧w'=w) (.inl ⟨_,w,hv1,rfl,rfl⟩) ?_
   rintro v' w' ⟨rfl,rfl⟩
   exact ⟨E,_,h4,hs.put hdst (fun _=>by simp [Rep,RepD]) (fun e=>by cases e),by cases dst<;>exact Evo.refl _ _ _ _⟩
  ·exact h.elim
 ·rename_i c
  split at h
  ·exact hval h.1 h.2 (by simp)
  ·split at h
   ·rename_i f args vc hco
    obtain ⟨hvc,hen,hcall⟩:=h
    obtain ⟨vs,hvs,hrun⟩:=zfw (o:=⟨dst,.call c,ot,pos,after,guard⟩) rfl hs hco hvc hen
    refine ⟨fun _ _=>trivial,?_⟩
    rw [Oper.semAt_eq _ _ _ (by simp),hrun]
    simp only [Oper.uponIn_enter]
    refine ⟨(fun h=>by cases h),?_⟩
    refine (zfZ _ (hcall E w _ hs.hp hvs)).mono ?_
    rintro e w' ⟨v,E',r,h',rfl,hk,hh,hr,hev,hrep⟩
    exact ⟨E',_,hk,(hs.call hh hev hrep).put hdst (fun _=>hr) (fun e=>by cases e),by cases dst<;>exact hev.evo⟩
   ·exact heff h (by simp)
 ·rename_i hn1 hn2 hn3 hn4
  have hdf:∀c,op≠ .defer c:=by
   rintro c rfl
   simp [isVal,zbk,aeff,zH] at h
  split at h
  ·exact hval h.1 h.2 hdf
  ·exact heff h hdf
theorem zeu {P:Program} {op:Op} (h:isVal P op=true):∀c,op≠ .defer c:=by
 rintro c rfl
 simp [isVal,zbk] at h
theorem zg3 {all:Array Oper} {o:Oper} {G:Bool} {K:AS→Prop} {Q:Exit→Act→World→Prop} (hs:Sat cx E s a w) (hg:zaa s all o.guard=some G) (h:aop cx G o K s):
  if Region.wanted o (yielded all a.tmps) then o.wpIn cx.F 0 cx.P a w (Reach cx E s.h w K) Q else (∀f,o.about cx.P w a.eval=some f→cx.F.fn f)∧Reach cx E s.h w K (a.put o.dst undef) w:=by
 obtain ⟨hd,h⟩:=h
 have hw:Region.wanted o (yielded all a.tmps)=G:=by
  unfold zaa at hg
  unfold Region.wanted
  cases ho:o.guard with
  |none=>simp [ho] at hg;simp [hg]
  | some p=>
   obtain ⟨j,want⟩:=p
   simp only [ho] at hg ⊢
   unfold yielded
   cases hj:(all[j]?).bind (·.dst) with
   |none=>simp [hj] at hg
   | some d=>
    simp only [hj] at hg
    cases hl:lk s.t d with
    |none=>simp [hl] at hg
    | some q=>
     obtain ⟨g,v⟩:=q
     obtain ⟨x,hx,hr,hu⟩:=hs.slots d g v hl
     simp only [hl] at hg
     simp only [Option.bind_some,hx]
     split at hg
     ·rename_i g' b e
      simp only [Option.some.injEq,Prod.mk.injEq] at e hg
      obtain ⟨rfl,rfl⟩:=e
      subst hg
      cases g with
      |true=>
       have:=hr rfl
       simp only [Rep,RepD] at this
       subst this
       cases b<;>cases want<;>rfl
      |false=>
       have:=hu rfl
       subst this
       simp [undef]
     ·rename_i v' e
      simp only [Option.some.injEq,Prod.mk.injEq] at e hg
      obtain ⟨rfl,rfl⟩:=e
      subst hg
      have:=hu rfl
      subst this
      simp [undef]
     ·cases hg
 rw [hw]
 have hev0:∀ (x:AV) (g:Bool),Evo cx.fl E s.h w E (s.put o.dst g x).h w:=fun x g=>by cases o.dst<;>exact Evo.refl _ _ _ _
 cases G with
 | true=>
  have h1:aop1 cx o K s∨(isVal cx.P o.op=true∧(aval cx.P s o.op).1∧K (s.put o.dst true (aval cx.P s o.op).2)):=by
   split at h
   ·rename_i x he;left;unfold aop1;rw [he];simpa using h
   ·rename_i x he;left;unfold aop1;rw [he];simpa using h
   ·rename_i c x y he
    left;unfold aop1;rw [he]
    dsimp only
    split at h
    ·rename_i gc c' ec
     try rw [ec]
     obtain ⟨h1,h2⟩:=h
     obtain ⟨h3,h4,h5⟩:=h1 rfl
     exact ⟨h3,h4,h5,h2⟩
    ·exact h.elim
   ·split at h
    ·rename_i hv
     exact .inr ⟨hv,h.1 rfl,h.2⟩
    ·exact .inl (h.1 rfl)
  simp only [if_true]
  rcases h1 with h1|⟨hv,h1,h2⟩
  ·exact zcF hs hd h1
  ·obtain ⟨v,hv1,hr⟩:=zic hs.hp hs.slots o h1
   refine Does.wpIn (zeu hv) (R:=fun v' w'=>v'=v∧w'=w) (.inl ⟨v,w,hv1,rfl,rfl⟩) ?_
   rintro v' w' ⟨rfl,rfl⟩
   exact ⟨E,_,h2,hs.put (fun k e=>by rw [e] at hd;exact hd) (fun _=>hr) (fun e=>by cases e),hev0 _ _⟩
 | false=>
  simp only [Bool.false_eq_true,if_false]
  refine ⟨fun _ _=>trivial,?_⟩
  have hput:∀x,Sat cx E (s.put o.dst false x) (a.put o.dst undef) w:=fun x=>hs.put (fun k e=>by rw [e] at hd;exact hd) (fun e=>by cases e) (fun _=>rfl)
  split at h
  ·exact ⟨E,_,h.2,hput _,hev0 _ _⟩
  ·exact ⟨E,_,h.2,hput _,hev0 _ _⟩
  ·split at h
   ·exact ⟨E,_,h.2,hput _,hev0 _ _⟩
   ·exact h.elim
  ·split at h
   ·exact ⟨E,_,h.2,hput _,hev0 _ _⟩
   ·exact ⟨E,_,h.2 rfl,hput _,hev0 _ _⟩
theorem zg4 {F:Fence} {n:Nat} {P:Program} {o:Oper} {Q Q':Exit→Act→World→Prop} {n1 n2:Act→World→Prop} (h:o.wpIn F n P a w n1 Q) (hn:∀a w,n1 a w→n2 a w) (hQ:∀e a w,Q e a w→Q' e a w):o.wpIn F n P a w n2 Q':=by
 obtain ⟨h1,h2⟩:=h
 refine ⟨h1,?_⟩
 revert h2
 generalize (o.semAt F.round a.eval).run P w=r
 intro h2
 have hl:LetsOut Q→LetsOut Q':=by rintro ⟨_,_,h⟩;exact ⟨_,_,hQ _ _ _ h⟩
 cases r with
 | ok nx w'=>
  cases nx<;>simp only [Oper.uponIn] at h2 ⊢
  case value v=>exact hn _ _ h2
  case skip=>exact hn _ _ h2
  case defer d=>exact hn _ _ h2
  case enter f args=>exact ⟨h2.1,h2.2.mono fun e w'' hr=>by
   cases e with
   |returned v=>exact hn _ _ hr
   |panicked c=>exact hQ _ _ _ hr
   |outgrown=>exact hl hr⟩
  case row r args=>exact ⟨h2.1,h2.2.mono fun v w'' hr=>hn _ _ hr⟩
  case round l f t aZ b=>exact ⟨h2.1,h2.2.mono fun e w'' hr=>by
   cases e with
   |returned v=>exact hn _ _ hr
   |panicked c=>exact hQ _ _ _ hr
   |outgrown=>exact hl hr⟩
 |halt x w'=>cases x<;>simp only [Oper.uponIn] at h2 ⊢ <;>first|exact hQ _ _ _ h2|exact h2
theorem zZ {o:Oper} {Q:Exit→Act→World→Prop} {n1 n2:Act→World→Prop} (h:o.wpIn cx.F 0 cx.P a w n1 (fun _ _ _=>False)) (hn:∀a w,n1 a w→n2 a w):o.wpIn cx.F 0 cx.P a w n2 Q:=
 zg4 h hn (fun _ _ _ h=>h.elim)
theorem zw {F:Fence} {n:Nat} {P:Program} {all:Array Oper} {Q Q':Exit→Act→World→Prop} :∀ (l:List Nat) {a:Act} {w:World},wpOpsIn F n P all Q l a w→(∀e a w,Q e a w→Q' e a w)→wpOpsIn F n P all Q' l a w
 | [],a,w,h,hq=>hq _ _ _ h
 | i::l,a,w,h,hq=>by
  simp only [wpOpsIn] at h ⊢
  split
  ·rename_i ho;simp only [ho] at h;exact zw l h hq
  ·rename_i o ho
   simp only [ho] at h
   split
   ·rename_i hw;rw [if_pos hw] at h;exact zg4 h (fun _ _ h=>zw l h hq) hq
   ·rename_i hw;rw [if_neg hw] at h;exact ⟨h.1,zw l h.2 hq⟩
theorem zbz {α:Type} (all:Array α):(List.range all.size).map (all[·]?)=all.toList.map some:=by
 apply List.ext_getElem?
 intro i
 simp only [List.getElem?_map]
 by_cases hi:i<all.size
 ·simp [hi]
 ·simp [hi]
theorem zdz {c:Operand} {x y:Code} {Q:Exit→AS→Prop} {b:Bool} (hc:s.ev c=(true,.d (.bool b))) (ht:b=true→AW cx x Q s) (hf:b=false→AW cx y Q s):AW cx (.cond c x y) Q s:=by
 intro E a w hs
 have:=ev_ok hs.slots c (by rw [hc])
 rw [hc] at this
 simp only [Rep,RepD] at this
 exact wpIn_cond_split this (fun e=>ht e E a w hs) (fun e=>hf e E a w hs)
end
open Go
def ares (P:Program) (s:AS):List ResultVar→Prop×List AV
 | []=>(True,[])
 | .tmp t::r=>((s.ev (.tmp t)).1=true∧(ares P s r).1,(s.ev (.tmp t)).2::(ares P s r).2)
 | .cell x t::r=>((s.ev (.tmp x)).1=true∧(zbi P s t (s.ev (.tmp x)).2).1∧(ares P s r).1,(zbi P s t (s.ev (.tmp x)).2).2::(ares P s r).2)
def one:List AV→AV
 | [v]=>v
 |vs=> .tup vs
def RetK (P:Program) (fn:Func) (K:AV→AHeap→Prop):Exit→AS→Prop
 | .normal,s=>(ares P s fn.results.toList).1∧K (one (ares P s fn.results.toList).2) s.h
 | .ret,s=>(ares P s fn.results.toList).1∧K (one (ares P s fn.results.toList).2) s.h
 |_,_=>False
def zL:Nat→List AV→List (Nat×(Bool×AV))
 |_,[]=> []
 |i,a::r=>(i,(true,a))::zL (i+1) r
def cxOf (P:Program) (base nt fl:Nat):Cx:= { P:=P,ro:=none,base:=base,nt:=nt,fl:=fl,G:=fun _ _ _ _ _=>True,stab:=fun _ _ _ _ _ _ _ _ _ _ _ _ _ _ _=>trivial,yok:=fun xs x _ _ _ _ _ _ _ _ _ hp=>absurd hp (by simp) }
section
variable {P : Program}
theorem zbl:∀ (args:List AV) (i k:Nat) {g:Bool} {v:AV},lk (zL i args) k=some (g,v)→g=true∧i≤k∧args[k - i]?=some v
 | [],i,k,g,v,h=>by simp [zL,lk] at h
 | a::r,i,k,g,v,h=>by
  simp only [zL,lk] at h
  split at h
  ·rename_i e;subst e
   simp only [Option.some.injEq,Prod.mk.injEq] at h
   obtain ⟨rfl,rfl⟩:=h
   simp
  ·rename_i e
   obtain ⟨h1,h2,h3⟩:=zbl r (i+1) k h
   refine ⟨h1,by omega,?_⟩
   obtain ⟨d,rfl⟩:∃d,k=i+1+d:=⟨k - (i+1),by omega⟩
   rw [show i+1+d - i=d+1 by omega]
   rw [show i+1+d - (i+1)=d by omega] at h3
   simpa using h3
structure Shut (base:Nat) (w w':World):Prop where
 os:w'.os=w.os
 tape:w'.tape=w.tape
 output:w'.output=w.output
 size:w'.heap.size=w.heap.size
 low:∀b,b<base→w'.heap[b]?=w.heap[b]?
 keep:∀ (b:Nat) (o:Obj),w.heap[b]?=some o→(∀ds,o≠ .deferred ds)→(∀r,o≠ .loop r)→w'.heap[b]?=some o
theorem Shut.refl (base:Nat) (w:World):Shut base w w:=⟨rfl,rfl,rfl,rfl,fun _ _=>rfl,fun _ _ h _ _=>h⟩
theorem zb4 {base:Nat} {E:Env} {fn:Func} {tmps:Array Value} {R:Ending→World→Prop} :∀ (ds:List Deferred) (w:World),Marks base E w ds→
  (∀w'',Shut base w w''→(∀b,¬zQ ds b→w''.heap[b]?=w.heap[b]?)→∃v,(results fn tmps).run P w''= .ok v w''∧R (.returned v) w'')→LeavesInM Fence.wide 0 P fn tmps R ds .returning w
 | [],w,_,h=>h w (Shut.refl _ _) (fun _ _=>rfl)
 | d::ds,w,hm,h=>by
  obtain ⟨r,h1,h2,h3,h4⟩:=hm.1 d (by simp)
  refine ⟨by simp,.inl ⟨r,w.putObj r (.deferred none),h1,run_takeDeferred h2,?_⟩⟩
  have hr:=(Array.getElem?_eq_some_iff.1 h2).1
  refine zb4 (base:=base) (E:=E) ds _ ⟨fun d' hd'=>?_,?_⟩ (fun w'' hs ho=>h w'' ?_ ?_)
  ·obtain ⟨r',g1,g2,g3,g4⟩:=hm.1 d' (by simp [hd'])
   have hne:r'≠r:=by
    intro e
    subst e
    have:=hm.2
    simp only [List.map_cons,h1,List.nodup_cons,List.mem_map,not_exists,not_and] at this
    exact this.1 d' hd' (by rw [g1])
   exact ⟨r',g1,(World.putObj_heap_other hne).trans g2,g3,g4⟩
  ·have:=hm.2
   simp only [List.map_cons,List.nodup_cons] at this
   exact this.2
  ·refine ⟨hs.os,hs.tape,hs.output,by rw [hs.size];simp,fun b hb=>(hs.low b hb).trans (World.putObj_heap_other (by omega)),fun b o hb ho hl=>hs.keep b o ?_ ho hl⟩
   have hne:b≠r:=by
    intro e;subst e
    rw [h2] at hb;cases hb
    exact ho _ rfl
   exact (World.putObj_heap_other hne).trans hb
  ·intro b hb
   refine (ho b (fun ⟨d',hd',e⟩=>hb ⟨d',by simp [hd'],e⟩)).trans (World.putObj_heap_other (fun e=>hb ⟨d,by simp,by rw [h1,e]⟩))
theorem Shut.hK {base:Nat} {w w':World} (h:Shut base w w') {X:Nat→Prop} :KIn w w' X:=fun b o hb hs _=>h.keep b _ hb (by rintro ds rfl;cases hs) (by rintro ds rfl;cases hs)
theorem SatH.refit {E E':Env} {h:AHeap} {w w':World} {base:Nat} (hs:SatH E h w) (sh:Shut base w w') (hO:E'.O=E.O) (hC:E'.C=E.C) (hX:∀b,b<w.heap.size→Xs E' h b→Xs E h b)
  (own:∀b,Own E h b→¬E'.M b∧¬E'.N b) (m:∀b,E'.M b→b<w.heap.size) (n:∀b,E'.N b→b<w.heap.size):SatH E' h w' where
 heap:=fun i o ho=>by
  have hg:∀j,GoesOn E h E' h j:=fun j=>by
   unfold GoesOn
   split<;>simp_all
  have:=hs.heap i o ho
  cases o with
  |var cs=>
   simp only [RepObj,hO] at this ⊢
   obtain ⟨b,d,T,fz,h1,h2,h3,h4⟩:=this
   exact ⟨b,d,T,fz,h1,sh.keep _ _ h2 (by intro ds e;cases e) (by intro ds e;cases e),Reps.stepc (hX_of hX) sh.hK _ _ (fun j _=>hg j) h3,h4⟩
  |tvar tt cs=>
   simp only [RepObj,hO] at this ⊢
   obtain ⟨b,d,T,fz,h1,h2,h3,h4⟩:=this
   exact ⟨b,d,T,fz,h1,sh.keep _ _ h2 (by intro ds e;cases e) (by intro ds e;cases e),Reps.stepc (hX_of hX) sh.hK _ _ (fun j _=>hg j) h3,h4⟩
  |arr k xs=>
   simp only [RepObj,hO,hC] at this ⊢
   rcases this with h0|⟨b,d,T,fz,h1,h2,h3,h4,h5,h6⟩
   ·exact .inl h0
   ·exact .inr ⟨b,d,T,fz,h1,sh.keep _ _ h2 (by intro ds e;cases e) (by intro ds e;cases e),h3,h4,RepRows.stepc (hX_of hX) sh.hK _ _ _ h5,h6⟩
  |buf tt xs=>
   simp only [RepObj,hO,hC] at this ⊢
   rcases this with h0|⟨b,d,T,fz,h1,h2,h3,h4,h5,h6⟩
   ·exact .inl h0
   ·exact .inr ⟨b,d,T,fz,h1,sh.keep _ _ h2 (by intro ds e;cases e) (by intro ds e;cases e),h3,h4,h5,h6⟩
  |strit l p=>
   simp only [RepObj,hO] at this ⊢
   obtain ⟨b,h1,h2⟩:=this
   exact ⟨b,h1,sh.keep _ _ h2 (by intro ds e;cases e) (by intro ds e;cases e)⟩
  |omap es=>
   simp only [RepObj,hO] at this ⊢
   obtain ⟨b,mm,cl,h1,h2,h3⟩:=this
   exact ⟨b,mm,cl,h1,sh.keep _ _ h2 (by intro ds e;cases e) (by intro ds e;cases e),h3⟩
 inj:=fun i j b h1 h2=>by rw [hO];exact hs.inj i j b h1 h2
 own:=fun b hb=>by
  have hb':Own E h b:=by
   obtain ⟨i,hi,he⟩:=hb
   exact ⟨i,hi,by rw [← hO];exact he⟩
  exact ⟨by rw [sh.size];exact (hs.own b hb').1,own b hb'⟩
 mlt:=fun b hb=>by rw [sh.size];exact m b hb
 nlt:=fun b hb=>by rw [sh.size];exact n b hb
theorem Rep.refit {E E':Env} {h:AHeap} {w w':World} {base:Nat} (sh:Shut base w w') (hO:E'.O=E.O) (hC:E'.C=E.C) (hX:∀b,b<w.heap.size→Xs E' h b→Xs E h b) {a:AV} {v:Value} (hr:Rep w E h a v):Rep w' E' h a v:=
 Rep.stepc (hX_of hX) sh.hK a v (fun j _=>by unfold GoesOn;split<;>simp_all) hr
theorem Reps.refit {E E':Env} {h:AHeap} {w w':World} {base:Nat} (sh:Shut base w w') (hO:E'.O=E.O) (hC:E'.C=E.C) (hX:∀b,b<w.heap.size→Xs E' h b→Xs E h b) {a:List AV} {v:List Value} (hr:Reps w E h a v):Reps w' E' h a v:=
 Reps.stepc (hX_of hX) sh.hK a v (fun j _=>by unfold GoesOn;split<;>simp_all) hr
def zfx (tmps:Array Value):ResultVar→Sem Value
 | .tmp t=>pure (tmps.getD t undef)
 | .cell a t=>asAddr (tmps.getD a undef) >>= fun p=>loadVar t p
def oneV:List Value→Value
 | [v]=>v
 |vs=> .tuple vs.toArray
theorem zfy (fn:Func) (tmps:Array Value):results fn tmps=(do let vs ← fn.results.mapM (zfx tmps);pure (if h:vs.size=1 then vs[0] else .tuple vs)):=by
 unfold results
 congr 1
theorem zil {fn:Func} {tmps:Array Value} {vs:List Value} {w:World} (h:(fn.results.toList.mapM (zfx tmps)).run P w= .ok vs w):(results fn tmps).run P w= .ok (oneV vs) w:=by
 rw [zfy,Array.mapM_eq_mapM_toList]
 simp only [Sem.run_bind,Sem.run_map,h,Result.andThen_ok,Sem.run_pure]
 match vs with
 | []=>rfl
 | [v]=>rfl
 |v::u::r=>rfl
theorem zim {E:Env} {s:AS} {a:Act} {w:World} (hp:SatH E s.h w) (hs:Slots w E s a):∀ (l:List ResultVar),(ares P s l).1→∃vs,(l.mapM (zfx a.tmps)).run P w= .ok vs w∧Reps w E s.h (ares P s l).2 vs
 | [],_=>⟨[],by simp,by simp [ares,Reps]⟩
 | .tmp t::l,h=>by
  simp only [ares] at h ⊢
  obtain ⟨vs,h1,h2⟩:=zim hp hs l h.2
  have:=ev_ok hs (.tmp t) h.1
  simp only [Act.eval] at this
  refine ⟨a.tmps.getD t undef::vs,?_,by simp only [Reps];exact ⟨_,_,rfl,this,h2⟩⟩
  simp only [List.mapM_cons,zfx,Sem.run_bind,Sem.run_pure,Result.andThen_ok,h1]
 | .cell x t::l,h=>by
  simp only [ares] at h ⊢
  obtain ⟨vs,h1,h2⟩:=zim hp hs l h.2.2
  have hx:=ev_ok hs (.tmp x) h.1
  obtain ⟨v,h3,h4⟩:=zgU (P:=P) hp h.2.1 hx
  refine ⟨v::vs,?_,by simp only [Reps];exact ⟨_,_,rfl,h4,h2⟩⟩
  have h5:(zfx a.tmps (.cell x t)).run P w= .ok v w:=by
   simp only [Act.eval] at h3
   revert h3
   unfold Instr.loadAt Instr.sureAddr zfx asAddr
   simp only [Sem.run_bind]
   cases a.tmps.getD x undef with
   |pointer p=>
    cases p with
    |none=>intro h3;simp at h3
    |some p=>intro h3;simpa using h3
   |_=>intro h3;simp at h3
  simp only [List.mapM_cons,Sem.run_bind,h5,Result.andThen_ok,h1,Sem.run_pure]
theorem zo7 {E:Env} {h:AHeap} {w:World} {aZ:List AV} {vs:List Value} (hr:Reps w E h aZ vs):Rep w E h (one aZ) (oneV vs):=by
 match aZ,vs,hr with
 | [],vs,hr=>simp only [Reps] at hr;subst hr;simp [one,oneV,Rep,Reps]
 | [a],vs,hr=>
  simp only [Reps] at hr
  obtain ⟨v,r,rfl,h1,rfl⟩:=hr
  simpa [one,oneV] using h1
 |a::b::aZ,vs,hr=>
  have hr':=hr
  simp only [Reps] at hr
  obtain ⟨v,r,rfl,h1,u,r',rfl,h2,h3⟩:=hr
  simp only [one,oneV,Rep]
  exact ⟨_,rfl,by simpa using hr'⟩
theorem zbA {f:FuncId} {fn:Func} (hf:P.funcs[f]?=some fn) (hn:(fn.name== "runtime.NumGoroutine")=false) (hb:fn.body.isNone=false):zbj P f:=by
 intro args w
 simp only [callFunc,Sem.run_bind,run_program,Result.andThen_ok,hf,hn,hb,Bool.false_eq_true,if_false,Sem.run_pure]
theorem zc0 {f:FuncId} {fn:Func} {c:Code} {nt fl:Nat} {args:List AV} {h:AHeap} {K:AV→AHeap→Prop} (hf:P.funcs[f]?=some fn) (hb:fn.body=some c) (hen:zbj P f) (hnt:fn.ntmps=nt) (hn:args.length≤nt)
  (haw:∀base,AW (cxOf P base nt fl) c (RetK P fn K) { t:=zL 0 args,h:=h,g:=some [] }):ACall P f fl args h K:=by
 refine ⟨hen,fun E w vs hs hr=>(callsIn_wide (n:=0)).1 (callsIn_of_wp_marks hf hb trivial ?_ rfl)⟩
 subst hnt
 have hlen:=Reps.length hr
 let E1:Env:= { O:=E.O,C:=E.C,M:=fun _=>False,N:=fun b=>E.M b∨E.N b }
 have hX1:∀b,b<w.heap.size→Xs E1 h b→Xs E h b:=fun b _ hx=>by
  rcases hx with hx|hx|hx
  ·exact .inl hx
  ·exact hx.elim
  ·exact .inr hx
 have hs1:SatH E1 h w:=hs.refit (Shut.refl 0 w) rfl rfl hX1 (fun b hb=>⟨fun h=>h,fun hn=>hn.elim (hs.own b hb).2.1 (hs.own b hb).2.2⟩) (fun _ h=>h.elim) (fun b hn=>hn.elim (hs.mlt b) (hs.nlt b))
 have hr1:Reps w E1 h args vs.toList:=Reps.refit (E:=E) (E':=E1) (Shut.refl 0 w) rfl rfl hX1 hr
 have hsat:Sat (cxOf P w.heap.size fn.ntmps fl) E1 { t:=zL 0 args,h:=h,g:=some [] } { tmps:=vs++Array.replicate (fn.ntmps - vs.size) undef,defers:= [] } w:=by
  refine ⟨fun k g v hk=>?_,?_,hs1,⟨Nat.le_refl _,fun _=>rfl⟩,⟨by simp,by simp⟩,trivial⟩
  ·obtain ⟨rfl,_,hv⟩:=zbl args 0 k hk
   obtain ⟨x,hx,hrx⟩:=Reps.get hr1 hv
   have hx':vs[k]?=some x:=by simpa using hx
   have hk':=(Array.getElem?_eq_some_iff.1 hx').1
   exact ⟨x,by rw [Array.getElem?_append_left hk'];exact hx',fun _=>hrx,fun e=>by cases e⟩
  ·have:vs.size=args.length:=by simpa using hlen
   simp [cxOf];omega
 refine wpIn_mono (haw w.heap.size E1 _ w hsat) ?_
 intro e a2 w2 hr2
 have key:Reach (cxOf P w.heap.size fn.ntmps fl) E1 h w (fun s=>(ares P s fn.results.toList).1∧K (one (ares P s fn.results.toList).2) s.h) a2 w2→LeavesInM Fence.wide 0 P fn a2.tmps (fun e w'=>∃v E' r h',e= .returned v∧K r h'∧SatH E' h' w'∧Rep w' E' h' r v∧EvoC fl E h w E' h' w') a2.defers .returning w2:=by
  rintro ⟨E2,s2,⟨hares,hK⟩,hs2,he2⟩
  refine zb4 a2.defers w2 hs2.marks (fun w3 sh _=>?_)
  have hp3:SatH E2 s2.h w3:=hs2.hp.refit sh rfl rfl (fun _ _ h=>h) (fun b hb=>(hs2.hp.own b hb).2) hs2.hp.mlt hs2.hp.nlt
  have hsl3:Slots w3 E2 s2 a2:=fun k g v hk=>by
   obtain ⟨x,h1,h2,h3⟩:=hs2.slots k g v hk
   exact ⟨x,h1,fun e=>Rep.refit sh rfl rfl (fun _ _ h=>h) (h2 e),h3⟩
  obtain ⟨us,hu1,hu2⟩:=zim (P:=P) hp3 hsl3 fn.results.toList hares
  refine ⟨_,zil hu1,?_⟩
  have hM2:∀b,E2.M b→w.heap.size≤b:=fun b hb=>(he2.m2 b hb).elim (fun h=>h.elim) id
  have hN2:E2.N=fun b=>E.M b∨E.N b:=he2.n
  let E3:Env:= { O:=E2.O,C:=E2.C,M:=E.M,N:=E.N }
  have hX3:∀b,b<w3.heap.size→Xs E3 s2.h b→Xs E2 s2.h b:=fun b _ hx=>by
   rcases hx with hx|hx|hx
   ·exact .inl hx
   ·exact .inr (.inr (by rw [hN2];exact .inl hx))
   ·exact .inr (.inr (by rw [hN2];exact .inr hx))
  have hsz:w.heap.size≤w3.heap.size:=by rw [sh.size];exact he2.size
  refine ⟨_,E3,_,s2.h,rfl,hK,?_,Rep.refit (E:=E2) (E':=E3) (Shut.refl 0 w3) rfl rfl hX3 (zo7 hu2),?_⟩
  ·refine hp3.refit (E':=E3) (Shut.refl 0 w3) rfl rfl hX3 (fun b hb=>?_) (fun b hb=>Nat.lt_of_lt_of_le (hs.mlt b hb) hsz) (fun b hb=>Nat.lt_of_lt_of_le (hs.nlt b hb) hsz)
   have:=(hp3.own b hb).2.2
   rw [hN2] at this
   exact ⟨fun h=>this (.inl h),fun h=>this (.inr h)⟩
  ·refine ⟨sh.os.trans he2.os,sh.tape.trans he2.tape,sh.output.trans he2.output,hsz,fun b hb ho=>(sh.low b hb).trans (he2.keep b hb ho (fun h=>h)),he2.own,rfl,rfl,?_⟩
   intro i hi hl
   obtain ⟨g1,g2⟩:=he2.go i hi hl
   exact ⟨g1,g2⟩
 cases e with
 |normal=>exact key hr2
 |ret=>exact key hr2
 |exit id=>obtain ⟨_,_,h,_⟩:=hr2;exact h.elim
 |goto id=>obtain ⟨_,_,h,_⟩:=hr2;exact h.elim
 |panic c=>obtain ⟨_,_,h,_⟩:=hr2;exact h.elim
 |outgrown=>obtain ⟨_,_,h,_⟩:=hr2;exact h.elim
end
end Go.Aw
