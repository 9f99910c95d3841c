/-
 Further operations on memory: texts to bytes and back, append, copy, make, comparisons with nil.
-/
import Derived.Test.YtbmlikkofegdeaaGreatDoorPiece5
import Derived.CallsIn
import Derived.Laws.IdiomStrings
import Derived.Laws.BytesArg
import Derived.Laws.AppendOwn
set_option maxRecDepth 100000
set_option maxHeartbeats 2000000
set_option linter.unusedSimpArgs false
set_option linter.unusedVariables false
namespace Go.Aw
open Go
def Does (P:Program) (sem:Sem Next) (w:World) (R:Value->World->Prop):Prop:=
 (∃v w',sem.run P w= .ok (.value v) w'/\R v w')\/(∃w',sem.run P w= .ok .skip w'/\R undef w')
def zg5 (cx:Cx) (E:Env) (s:AS) (a:Act) (W:World) (K:AV->AHeap->Prop) (v:Value) (w':World):Prop:=
 ∃E' h' x,K x h'/\Sat cx E' { s with h:=h' } a w'/\Evo cx.fl E s.h W E' h' w'/\Rep w' E' h' x v
def zfk (b:UInt8):List D:= [.int .u8 b.toNat]
def zj (l:List UInt8):List (List D):=l.map zfk
def numOf:List D->Int
 | [.int _ n]=>n
 |_=>0
def zl3:List D->Bool
 | [.int .u8 _]=>true
 |_=>false
def bytesOf (rows:List (List D)):List UInt8:=rows.map λr=>UInt8.ofNat (numOf r).toNat
def rowsK (s:AS) (k:Nat):AV->Option (List (List D))
 | .nils _=>some []
 | .d (.sl k' rows)=>if k'=k then some rows else none
 | .osl i k' m off len=>(match hget s.h i with
  |some (.arr k'' xs)=>if k'=k/\k''=k/\m=xs.length/\off+len<=m then some ((xs.drop off).take len) else none
  |_=>none)
 | .vsl i k' off len=>(match hget s.h i with
  |some (.var cs)=>if k'=1/\k=1/\off+len<=cs.length then (toDs ((cs.drop off).take len)).map λds=>ds.map λd=> [d] else none
  |_=>none)
 |_=>none
def rowsT (P:Program) (s:AS) (k:Nat) (t:TypeId) (x:AV):Option (List (List D)):=
 match (ty P t).td with
 | .slice _=>rowsK s k x
 | .str=>(match x with
  | .d (.str l)=>if k=1 then some (zj l) else none
  |_=>none)
 |_=>none
def zfl (s:AS):AV->(Bool->Prop)->Prop
 | .nils _,R=>R true
 | .asl _ _,R=>R false
 | .vsl _ _ _ _,R=>R false
 | .d (.sl _ rows),R=>∀b,(b=true->rows= [])->R b
 | .osl i k n _ len,R=>s.cur i n k/\∀b,(b=true->len=0)->R b
 |_,_=>False
def isX (P:Program):Op->Bool
 | .convert src dst _=>(match (ty P src).td with| .slice _=>true|_=>false)||(match (ty P dst).td with| .slice _=>true|_=>false)
 | .binOp _ t _ _ _=>(match (ty P t).td with| .slice _=>true|_=>false)
 |_=>false
def zrow (P:Program) (e:TypeId):Option (List D):=toDs (zT P 12 e)
def rput (xs:List (List D)) (off:Nat) (rows:List (List D)):List (List D):=xs.take off++rows++xs.drop (off+rows.length)
def zao (fl : Nat) (P:Program) (s:AS) (op:Op) (K:AV→AHeap→Prop):Prop:=
  match op with
  | .convert src dst x=>(match (ty P src).td,(ty P dst).td with
    | .str,.slice e=>(match s.ev x with
      |(g,.d (.str l))=>g=true∧(ty P e).td= .int .u8∧K (.osl (fresh fl s.h) 1 l.length 0 l.length) ((fresh fl s.h,.arr 1 (zj l))::s.h)
      |_=>False)
    | .slice e,.str=>(match rowsK s 1 (s.ev x).2 with
      |some rows=>(s.ev x).1=true∧(ty P e).td= .int .u8∧rows.all zl3=true∧K (.d (.str (bytesOf rows))) s.h
      |none=>False)
    |_,_=>False)
  | .binOp o t x y _=>(match (ty P t).td with
    | .slice _=>(s.ev x).1=true∧(s.ev y).1=true∧(match (s.ev y).2,o with
      | .nils _,.eql=>zfl s (s.ev x).2 (fun b=>K (.d (.bool b)) s.h)
      | .nils _,.neq=>zfl s (s.ev x).2 (fun b=>K (.d (.bool (!b))) s.h)
      |_,_=>False)
    |_=>False)
  | .makeSlice t l c=>(match (ty P t).td,s.ev l,s.ev c with
    | .slice e,(gl,.d (.int .i64 n)),(gc,.d (.int .i64 m))=>gl=true∧gc=true∧n=m∧0≤n∧n*(ty P e).bytes≤16777216∧n≤16777216∧zZ P e=true∧(ty P e).td≠ .other∧(ty P e).size≠0∧
      (match zrow P e with
      |some z=>K (.osl (fresh fl s.h) (ty P e).size n.toNat 0 n.toNat) ((fresh fl s.h,.arr (ty P e).size (List.replicate n.toNat z))::s.h)
      |none=>False)
    |_,_,_=>False)
  | .range t x=>(match (ty P t).td,s.ev x with
    | .str,(g,.d (.str l))=>g=true∧K (.itr (fresh fl s.h)) ((fresh fl s.h,.strit l 0)::s.h)
    |_,_=>False)
  | .next x b=>(match s.ev x with
    | (g,.itr i)=>g=true∧b=true∧(match hget s.h i with
      |some (.strit l p)=>if p<l.length then K (.tup [.d (.bool true),.d (.int .i64 p),.d (.int .i32 (Utf8.decode ⟨l.toArray⟩ p).1)]) (hset s.h i (.strit l (p+(Utf8.decode ⟨l.toArray⟩ p).2))) else K (.tup [.d (.bool false)]) s.h
      |_=>False)
    |_=>False)
  | .makeMap _ r=>(match r with
    |none=>K (.map (fresh fl s.h)) ((fresh fl s.h,.omap [])::s.h)
    |some _=>False)
  | .mapUpdate t m k v=>(match (ty P t).td,s.ev m,s.ev k,s.ev v with
    | .map kt _,(gm,.map i),(gk,.d kd),(gv,.d vd)=>gm=true∧gk=true∧gv=true∧vd.scal=true∧(match s.esOf i with
      |some es=>alike (ty P kt).td kd=true∧(es.all fun p=>alike (ty P kt).td p.1)=true∧K .any (hset s.h i (.omap (mput kd vd es)))
      |none=>False)
    |_,_,_,_=>False)
  | .call c => (match c.callee with
    | .builtin .append=>(match c.args.toList,c.argTypes.toList with
      | [x, y], [t,u]=>(match (ty P t).td with
        | .slice e=>(s.ev x).1=true∧(s.ev y).1=true∧zZ P e=true∧(ty P e).td≠ .other∧(ty P e).size≠0∧
          (match rowsT P s (ty P e).size u (s.ev y).2 with
          | some rows=>(match (s.ev x).2 with
            | .nils _=>rows.length*(ty P e).bytes≤140737488355328∧rows.length≤140737488355328∧K (.osl (fresh fl s.h) (ty P e).size rows.length 0 rows.length) ((fresh fl s.h,.arr (ty P e).size rows)::s.h)
            | .osl i k m off len=>(match hget s.h i with
              | some (.arr k' xs)=>k=(ty P e).size∧k'=(ty P e).size∧m=xs.length∧off=0∧len=m∧(xs.length+rows.length)*(ty P e).bytes≤140737488355328∧xs.length+rows.length≤140737488355328∧
                K (.osl i k (m+rows.length) 0 (m+rows.length)) (hset s.h i (.arr k' (xs++rows)))
              |_=>False)
            |_=>False)
          |none=>False)
        |_=>False)
      |_,_=>False)
    | .builtin .copy=>(match c.args.toList,c.argTypes.toList with
      | [x, y],[t,u]=>(match (ty P t).td with
        | .slice e=>(s.ev x).1=true∧(s.ev y).1=true∧zZ P e=true∧(ty P e).size≠0∧
          (match rowsT P s (ty P e).size u (s.ev y).2 with
          | some rows=>(match (s.ev x).2 with
            | .osl i k m off len=>(match hget s.h i with
              |some (.arr k' xs)=>k=(ty P e).size∧k'=(ty P e).size∧m=xs.length∧off+len≤m∧rows.length≤len∧K (.d (.int .i64 rows.length)) (hset s.h i (.arr k' (rput xs off rows)))
              |_=>False)
            |_=>False)
          |none=>False)
        |_=>False)
      |_,_=>False)
    | .builtin .clear=>(match c.args.toList,c.argTypes.toList with
      | [x], [t]=>(match (ty P t).td with
        | .slice e=>(s.ev x).1=true∧zZ P e=true∧(ty P e).td≠ .other∧(ty P e).size≠0∧
          (match zrow P e with
          | some z=>(match (s.ev x).2 with
            | .osl i k m off len=>(match hget s.h i with
              |some (.arr k' xs)=>k=(ty P e).size∧k'=(ty P e).size∧m=xs.length∧off+len≤m∧K (.tup []) (hset s.h i (.arr k' (rput xs off (List.replicate len z))))
              |_=>False)
            |_=>False)
          |none=>False)
        |_=>False)
      |_,_=>False)
    |_=>False)
  |_=>False
section
variable {P : Program} {W : World} {E : Env} {s : AS} {a : Act} {cx : Cx} {K : AV -> AHeap -> Prop}
theorem Sat.drew {w:World} (hs:Sat cx E s a w):Sat cx E s a w.drew where
 slots:=λk g v hk=>by obtain ⟨x,h1,h2,h3⟩:=hs.slots k g v hk;exact ⟨x,h1,λe=>Rep.step (W:=w) (W':=w.drew) (λ_ _ h=>h) (λ_ _ _=>rfl) _ _ (λj _=>GoesOn.refl E s.h j) (h2 e),h3⟩
 nt:=hs.nt
 hp:=⟨λi o ho=>by
  have:=hs.hp.heap i o ho;cases o with
  |var cs=>
   simp only [RepObj] at this ⊢;obtain ⟨b,d,T,fz,h1,h2,h3,h4⟩:=this;exact ⟨b,d,T,fz,h1,h2,Reps.step (W:=w) (W':=w.drew) (λ_ _ hx=>hx) (λ_ _ _=>rfl) _ _ (λj _=>GoesOn.refl E s.h j) h3,h4⟩
  |tvar tt cs=>
   simp only [RepObj] at this ⊢;obtain ⟨b,d,T,fz,h1,h2,h3,h4⟩:=this;exact ⟨b,d,T,fz,h1,h2,Reps.step (W:=w) (W':=w.drew) (λ_ _ hx=>hx) (λ_ _ _=>rfl) _ _ (λj _=>GoesOn.refl E s.h j) h3,h4⟩
  |arr k xs=>
   simp only [RepObj] at this ⊢;rcases this with h0|⟨b,d,T,fz,h1,h2,h3,h4,h5,h6⟩
   ·exact .inl h0
   ·exact .inr ⟨b,d,T,fz,h1,h2,h3,h4,RepRows.step (W:=w) (W':=w.drew) (λ_ _ hx=>hx) (λ_ _ _=>rfl) _ _ _ h5,h6⟩
  |buf tt xs=>
   simp only [RepObj] at this ⊢;rcases this with h0|⟨b,d,T,fz,h1,h2,h3,h4,h5,h6⟩
   ·exact .inl h0
   ·exact .inr ⟨b,d,T,fz,h1,h2,h3,h4,h5,h6⟩
  |strit l p=>exact this
  |omap es=>exact this,hs.hp.inj,hs.hp.own,hs.hp.mlt,hs.hp.nlt⟩
 base:=hs.base
 marks:=hs.marks
 ghost:=cx.stab _ _ _ _ _ w _ (λ_ _ _=>rfl) (λ_ hb=> .inl hb) (λb hb=>hb.elim (λh=>(hs.hp.own b h).1) hs.marks.lt) (Nat.le_refl _) rfl rfl rfl hs.ghost
theorem zjG {w:World} (hs:Sat cx E s a w) {k cap:Nat} {xs:List (List D)} {vs:Array Value} (hr:RepRows w (Xs E s.h) k xs vs.toList) (hl:xs.length<=cap) (hz:vs.size=cap*k) (T:TypeId) (fz:Nat×Nat) (hf:zbf fz vs.size) (w':World) (hw:w'=w.alloc (.cells vs T fz)):
  Sat cx (E.set (fresh cx.fl s.h) (some w.heap.size) cap) { s with h:=(fresh cx.fl s.h,.arr k xs)::s.h } a w'/\Evo cx.fl E s.h w (E.set (fresh cx.fl s.h) (some w.heap.size) cap) ((fresh cx.fl s.h,.arr k xs)::s.h) w'/\
  Rep w' (E.set (fresh cx.fl s.h) (some w.heap.size) cap) ((fresh cx.fl s.h,.arr k xs)::s.h) (.osl (fresh cx.fl s.h) k xs.length 0 xs.length) (.slice (some ⟨w.heap.size,0,none⟩) xs.length cap):=by
 subst hw;have c:=zg4 cx.fl hs.hp (.cells vs T fz) (.arr k xs) cap;refine ⟨c.sat hs (λo ho=>?_),c.evo (.inr (zbb _ _)),?_⟩
 ·simp [hget] at ho;subst ho;simp only [RepObj];exact .inr ⟨w.heap.size,vs,T,fz,by simp [Env.set],zdb w _,by simpa [Env.set] using hz,by simpa [Env.set] using hl,c.rows hr,hf⟩
 ·simp only [Rep];exact ⟨⟨_,_,_,rfl⟩,xs,by simp [hget],Nat.le_refl _,by omega,λ_=> .inr (.inl ⟨w.heap.size,by simp [Env.set],by simp [Env.set]⟩)⟩
theorem zeP {w:World} {X:Nat->Prop} :∀ (l:List UInt8) (r:List Value),RepRows w X 1 (zj l) (l.map (λb=>Value.int .u8 b.toNat)++r)
 | [],_=>by simp [zj,RepRows]
 |b::l,r=>by simp only [zj,List.map_cons,RepRows,List.cons_append];refine ⟨rfl,by simp [zfk,RepDs,RepD],?_⟩;have:=zeP (w:=w) (X:=X) l r;unfold zj at this;simpa using this
theorem zj6 {w:World} {X:Nat→Prop} :∀ (rows:List (List D)) (cs:List Value),RepRows w X 1 rows cs→rows.all zl3=true→∀i,i<rows.length→cs[i]?=some (.int .u8 ((rows.map numOf).getD i 0))
 | [],_,_,_,i,hi=>by simp at hi
 | r ::rows,cs,h,hb,i,hi=>by
  simp only [RepRows] at h
  obtain ⟨h1,h2,h3⟩:=h
  simp only [List.all_cons,Bool.and_eq_true] at hb
  cases i with
  | zero=>
   unfold zl3 at hb
   split at hb
   ·rename_i n
    simp only [RepDs,RepD] at h2
    obtain ⟨v,r',e,rfl,rfl⟩:=h2
    cases cs with
    |nil=>simp at e
    |cons c cs=>
     simp at e
     simp [numOf,e]
   ·simp at hb
  |succ i=>
   have:=zj6 rows _ h3 hb.2 i (by simpa using hi)
   rw [List.getElem?_drop,Nat.add_comm] at this
   simpa using this
theorem zij (rows:List (List D)):strOfNums (rows.map numOf)=⟨(bytesOf rows).toArray⟩:=by unfold strOfNums bytesOf;rw [List.map_map];rfl
theorem zo6 (hp:SatH E s.h W) {k:Nat} {x:AV} {v:Value} {rows:List (List D)} (hr:Rep W E s.h x v) (h:rowsK s k x=some rows):
  (rows= []/\∃a cap,v= .slice a 0 cap)\/(∃b off cap c T fz,v= .slice (some ⟨b,off,none⟩) rows.length cap/\W.heap[b]?=some (.cells c T fz)/\RepRows W (Xs E s.h) k rows (c.toList.drop off)):=by
 unfold rowsK at h;split at h
 ·cases h;simp only [Rep] at hr;exact .inl ⟨rfl,_,_,hr⟩
 ·split at h
  ·rename_i hk;subst hk;cases h;simp only [Rep,RepD] at hr;rcases hr with ⟨rfl,a,cap,rfl⟩|⟨a,cap,c,T,fz,rfl,h2,h3,h4,h5,h6⟩
   ·exact .inl ⟨rfl,_,_,rfl⟩
   ·obtain ⟨ab,ao,asp⟩:=a;simp only at h2;subst h2;exact .inr ⟨ab,ao,cap,c,T,fz,rfl,h5,h6⟩
  ·cases h
 ·rename_i i k' m off len;split at h
  ·rename_i k'' xs hi;split at h
   ·rename_i hc;obtain ⟨rfl,rfl,rfl,hle⟩:=hc;cases h;simp only [Rep] at hr;obtain ⟨_,xs',h1,_,h3,h4⟩:=hr;rw [hi] at h1;cases h1;have hlen:((xs.drop off).take len).length=len:=by simp;omega
    have ho:=hp.heap i _ hi;simp only [RepObj] at ho;rcases h4 rfl with ⟨⟨g1,g10⟩,rfl⟩|⟨b,g1,rfl⟩|⟨g1,rfl,a,cap,rfl⟩
    ·obtain rfl:xs= []:=List.length_eq_zero_iff.1 g10;exact .inl ⟨by simp,_,_,rfl⟩
    ·rcases ho with ⟨q1,_⟩|⟨b',c,T,fz,q1,q2,q3,q4,q5,_⟩
     ·rw [g1] at q1;cases q1
     ·rw [g1] at q1;cases q1;refine .inr ⟨b,off*_,_,c,T,fz,by rw [hlen],q2,(RepRows.drop q5 off).take len⟩
    ·exact .inl ⟨by simp,_,_,rfl⟩
   ·cases h
  ·cases h
 ·rename_i i k' off len;split at h
  ·rename_i cs hi;split at h
   ·rename_i hc;obtain ⟨rfl,rfl,hc⟩:=hc;simp only [Option.map_eq_some_iff] at h;obtain ⟨ds,hds,rfl⟩:=h;simp only [Rep] at hr;obtain ⟨b,cs',h1,h2,h3,rfl⟩:=hr;rw [hi] at h1;cases h1;have ho:=hp.heap i _ hi;simp only [RepObj] at ho;obtain ⟨b',c,T,fz,q1,q2,q3,_⟩:=ho;rw [h2] at q1;cases q1;have hq:=(Reps.drop q3 off).take len;have hd:=hq.toDs hds
    have hln:ds.length=len:=by have:=RepDs.length hd;have h9:=Reps.length hq;have h8:=Reps.length q3;simp at this h9 h8;omega
    refine .inr ⟨b,off,len,c,T,fz,by simp [hln],q2,?_⟩
    have key:∀ (ds:List D) (vs us:List Value),RepDs W (Xs E s.h) ds vs->RepRows W (Xs E s.h) 1 (ds.map λd=> [d]) (vs++us):=by
     intro ds;induction ds with
     |nil=>intro vs us _;simp [RepRows]
     |cons d ds ih=>
      intro vs us h1;simp only [RepDs] at h1;obtain ⟨v,r,rfl,h3,h4⟩:=h1;simp only [List.map_cons,RepRows,List.cons_append];exact ⟨rfl,by simp [RepDs,h3],by simpa using ih r us h4⟩
    have:=key ds _ ((c.toList.drop off).drop len) hd;rwa [List.take_append_drop] at this
   ·cases h
  ·cases h
 ·cases h
theorem RepDs.oneCells {X:Nat->Prop} :∀ {ds:List D} {vs:List Value},RepDs W X ds vs->∀u∈vs,u.oneCell'=true
 | [],vs,h,u,hu=>by simp only [RepDs] at h;subst h;simp at hu
 |d::ds,vs,h,u,hu=>by
  simp only [RepDs] at h;obtain ⟨v,r,rfl,h1,h2⟩:=h;rcases List.mem_cons.1 hu with rfl|hu
  ·exact RepD.one h1
  ·exact RepDs.oneCells h2 u hu
theorem RepRows.oneCells {X:Nat->Prop} {k:Nat} :∀ {rows:List (List D)} {vs:List Value},RepRows W X k rows vs->vs.length=rows.length*k->∀u∈vs,u.oneCell'=true
 | [],vs,h,hl,u,hu=>by
  have:vs= []:=by simpa using hl
  subst this;simp at hu
 | r::rows,vs,h,hl,u,hu=>by
  simp only [RepRows] at h;obtain ⟨h1,h2,h3⟩:=h;rw [<-List.take_append_drop k vs] at hu;rcases List.mem_append.1 hu with hu|hu
  ·exact RepDs.oneCells h2 u hu
  ·refine RepRows.oneCells h3 ?_ u hu;simp only [List.length_cons,Nat.succ_mul] at hl;rw [List.length_drop];omega
theorem zv7 (hp:SatH E s.h W) {k:Nat} {u:TypeId} {x:AV} {v:Value} {rows:List (List D)} (hr:Rep W E s.h x v) (h:rowsT P s k u x=some rows):
  ∃news:List Value,news.length=rows.length*k/\RepRows W (Xs E s.h) k rows news/\(∀y∈news,y.oneCell'=true)/\(Builtin.lenOf v).run P W= .ok rows.length W/\
   (∀W':World,W'.heap=W.heap->(Builtin.firstCells k rows.length v).run P W'= .ok news.toArray W')/\(∃d,P.underlying u=some d/\∀kk,d≠ .int kk):=by
 unfold rowsT at h;split at h
 ·rename_i e hu;have hund:=zO hu;rcases zo6 hp hr h with ⟨rfl,a,cap,rfl⟩|⟨b,off,cap,c,T,fz,rfl,hb,hrr⟩
  ·refine ⟨[],by simp,by simp [RepRows],by simp,by simp [Builtin.lenOf],λW' hW=>?_,_,hund,λkk=>by simp⟩;cases a with
   |none=>simp [Builtin.firstCells]
   |some a=>simp [Builtin.firstCells,loadCells,loadCellsFrom]
  ·have hle:=RepRows.length_le hrr;have hln:((c.toList.drop off).take (rows.length*k)).length=rows.length*k:=by rw [List.length_take];omega
   have hrr':RepRows W (Xs E s.h) k rows ((c.toList.drop off).take (rows.length*k)):=RepRows.congr hrr (by rw [List.take_take,Nat.min_self]);refine ⟨(c.toList.drop off).take (rows.length*k),hln,hrr',RepRows.oneCells hrr' hln,by simp [Builtin.lenOf],λW' hW=>?_,_,hund,λkk=>by simp⟩;refine run_firstCells_some W' k rows.length ⟨b,off,none⟩ rows.length cap _ hln (λj y hj=>?_);rw [Addr.add_none,zac (by rw [hW];exact hb)];rw [List.getElem?_take] at hj;split at hj
   ·simpa [List.getElem?_drop] using hj
   ·cases hj
 ·rename_i hu;have hund:=zcy hu;split at h
  ·rename_i l;split at h
   ·rename_i hk;subst hk;cases h;simp only [Rep,RepD] at hr;subst hr;refine ⟨l.map λb=> .int .u8 b.toNat,by simp [zj],?_,?_,?_,λW' hW=>?_,_,hund,λkk=>by simp⟩
    ·have:=zeP (w:=W) (X:=Xs E s.h) l [];simpa using this
    ·intro y hy;obtain ⟨b,_,rfl⟩:=List.mem_map.1 hy;rfl
    ·simp [Builtin.lenOf,zj,ByteArray.size]
    ·have hln:(zj l).length=l.length:=by simp [zj]
     rw [hln];have hsz:(⟨l.toArray⟩:ByteArray).size=l.length:=by simp [ByteArray.size]
     have hex:(⟨l.toArray⟩:ByteArray).extract 0 l.length=⟨l.toArray⟩:=by rw [<-hsz];exact ByteArray.extract_zero_size
     simp [Builtin.firstCells,hex]
   ·cases h
  ·cases h
 ·cases h
theorem zfb {t u ty e:TypeId} {i:TypeInfo} {z:Value} (ht:P.underlying t=some (.slice e)) {d:TypeDesc} (hu:P.underlying u=some d) (hd:∀kk,d≠ .int kk) (hi:P.info? e=some i) (hz:i.zero=some z)
  {w:World} {base:Option Addr} {sLen sCap n:Nat} {x:Value} {olds news:List Value} (hx:(Builtin.lenOf x).run P w= .ok n w)
  (ho:∀W':World,W'.heap=w.heap->(Builtin.firstCells i.size sLen (.slice base sLen sCap)).run P W'= .ok olds.toArray W') (hn:∀W':World,W'.heap=w.heap->(Builtin.firstCells i.size n x).run P W'= .ok news.toArray W')
  (hg:sCap<sLen+n) (h63:((sLen+n:Nat):Int)<=9223372036854775807) (hfit:Builtin.nextslicecap (sLen+n) sCap*i.bytes<=281474976710656):
  (Builtin.append_ #[t,u] ty #[.slice base sLen sCap,x]).run P w=
   .ok (.slice (some ⟨w.heap.size,0,none⟩) (sLen+n) (grownCap w (sLen+n) sCap e))
    (w.drew.alloc (.cells (olds.toArray++news.toArray++Builtin.zeroCells z.cells (grownCap w (sLen+n) sCap e - (sLen+n))) e)):=by
 have hn1:¬(sLen+n<=sCap):=by omega
 have h63':¬(9223372036854775807<((sLen:Int)+(n:Int))):=by omega
 have h48':¬(281474976710656<Builtin.nextslicecap (sLen+n) sCap*i.bytes):=by omega
 have ho':=ho w.drew rfl;have hn':=hn w.drew rfl;have hd':(match d with| .int _=>true|_=>false)=false:=by cases d<;>first|rfl|exact absurd rfl (hd _)
 simp [Builtin.append_,run_underlying ht,run_underlying hu,hd',sizeOf,typeInfo,zeroValue,hi,hz,hx,hn1,h63',h48',Question.forced,ho',hn',newRow,grownCap];congr 2;apply Array.ext';simp [List.append_assoc]
theorem zhU {t u ty e:TypeId} {i:TypeInfo} (ht:P.underlying t=some (.slice e)) {d:TypeDesc} (hu:P.underlying u=some d) (hd:∀kk,d≠ .int kk) (hi:P.info? e=some i)
  {w:World} {g sLen sCap n:Nat} {x:Value} {news:List Value} {c:Array Value} {T:TypeId} {fz:Nat×Nat} (hx:(Builtin.lenOf x).run P w= .ok n w)
  (hn:(Builtin.firstCells i.size n x).run P w= .ok news.toArray w) (hb:w.heap[g]?=some (.cells c T fz)) (hf:zbf fz c.size) (h1:∀y∈news,y.oneCell'=true) (hl:sLen*i.size+news.length<=c.size)
  (hroom:sLen+n<=sCap):
  (Builtin.append_ #[t,u] ty #[.slice (some ⟨g,0,none⟩) sLen sCap,x]).run P w= .ok (.slice (some ⟨g,0,none⟩) (sLen+n) sCap) (World.row w g (.cells (putA c (sLen*i.size) news) T fz)):=by
 have hd':(match d with| .int _=>true|_=>false)=false:=by cases d<;>first|rfl|exact absurd rfl (hd _)
 have hst:=zca (P:=P) (T:=T) (fz:=fz) (sLen*i.size) news 0 c w hb hf (by omega) h1;simp only [Nat.add_zero] at hst;simp [Builtin.append_,run_underlying ht,run_underlying hu,hd',sizeOf,typeInfo,hi,hx,hroom,hn,Addr.add_none,hst]
theorem zfc {t u ty e:TypeId} {i:TypeInfo} (ht:P.underlying t=some (.slice e)) {d:TypeDesc} (hu:P.underlying u=some d) (hd:∀kk,d≠ .int kk) (hi:P.info? e=some i)
  {w:World} {base:Option Addr} {sLen sCap:Nat} {x:Value} (hx:(Builtin.lenOf x).run P w= .ok 0 w)
  (hn:(Builtin.firstCells i.size 0 x).run P w= .ok #[] w) (hroom:sLen<=sCap):
  (Builtin.append_ #[t,u] ty #[.slice base sLen sCap,x]).run P w= .ok (.slice base sLen sCap) w:=by
 have hd':(match d with| .int _=>true|_=>false)=false:=by cases d<;>first|rfl|exact absurd rfl (hd _)
 cases base<;>simp [Builtin.append_,run_underlying ht,run_underlying hu,hd',sizeOf,typeInfo,hi,hx,hroom,hn,storeCells]
theorem zg6:∀ {h:AHeap} {i:Nat} {o:AObj},hget h i=some o->hset h i o=h
  | [],i,o,h=>rfl
  | (k,ok)::r,i,o,h=>by
    simp only [hget,hset] at h ⊢;by_cases e:k=i
    · simp only [e,if_true,Option.some.injEq] at h ⊢
      subst h;rfl
    · simp only [e,if_false] at h ⊢
      rw [zg6 h]
theorem zj7 {t:TypeId} (hz:zZ P t=true) {zs:List D} (hzr:zrow P t=some zs):∃i z,P.info? t=some i/\i.zero=some z/\i.size=(ty P t).size/\i.bytes=(ty P t).bytes/\z.cells.size=(ty P t).size/\
  ∀ (W:World) (X:Nat->Prop),RepDs W X zs z.cells.toList:=by obtain ⟨i,z,h1,h2,h3,h4,h5,h6⟩:=zih hz;refine ⟨i,z,h1,h2,h6,by simp [ty,Program.bytesOf,h1],by rw [h5,h6],λW X=>?_⟩;have hr:Reps W (bare X) [] (zT P 12 t) z.cells.toList:=zig h3;have hd:=hr.toDs hzr;refine RepDs.step (W:=W) (W':=W) (X:=Xs (bare X) []) (λb _ hx=> .inr (.inr hx)) (λ_ _ _=>rfl) _ _ hd
theorem zhF {X:Nat->Prop} {k:Nat} {zs:List D} {z:Array Value} (hk:zs.length=k) (hz:z.size=k) (h:RepDs W X zs z.toList):∀ (n m:Nat),n<=m->RepRows W X k (List.replicate n zs) ((Array.range (m*k)).map (z[· % z.size]!)).toList:=by
 have key:∀ (n:Nat),RepRows W X k (List.replicate n zs) ((List.replicate n z.toList).flatten):=by
  intro n;induction n with
  |zero=>simp [RepRows]
  | succ n ih=>
   simp only [List.replicate_succ,RepRows,List.flatten_cons];have hl:z.toList.length=k:=by simpa using hz
   refine ⟨hk,?_,?_⟩
   ·rw [<-hl,List.take_left']
    ·exact h
    ·rfl
   ·rw [<-hl,List.drop_left']
    ·rw [hl];exact ih
    ·rfl
 intro n m hnm;refine RepRows.congr (key n) ?_;rw [List.length_replicate];have hl:z.toList.length=k:=by simpa using hz
 apply List.ext_getElem?;intro j;rw [List.getElem?_take,List.getElem?_take];split
 ·rename_i hj
  have hk0:0<k:=by
   rcases Nat.eq_zero_or_pos k with h0|h0
   ·subst h0;simp at hj
   ·exact h0
  have hjm:j<m*k:=Nat.lt_of_lt_of_le hj (Nat.mul_le_mul_right _ hnm)
  have hfl:∀ (n j:Nat),j<n*k->((List.replicate n z.toList).flatten)[j]?=z.toList[j % k]?:=by
   intro n;induction n with
   |zero=>intro j hj;simp at hj
   | succ n ih=>
    intro j hj;rw [Nat.succ_mul] at hj;simp only [List.replicate_succ,List.flatten_cons];by_cases h1:j<k
    ·rw [List.getElem?_append_left (by omega),Nat.mod_eq_of_lt h1]
    ·rw [List.getElem?_append_right (by omega),hl,ih (j - k) (by omega)];rw [<-Nat.mod_eq_sub_mod (by omega)]
  rw [hfl n j hj];have hlt:j % k<z.size:=by rw [hz];exact Nat.mod_lt _ hk0
  simp only [Array.toList_map,Array.toList_range,List.getElem?_map,List.getElem?_range hjm,Option.map_some,hz];rw [getElem!_pos z (j % k) hlt];simp [hlt]
 ·rfl
theorem zny {α:Type} :∀ (c:List α) (o:Nat) (vs:List α),o+vs.length<=c.length->putL c o vs=c.take o++vs++c.drop (o+vs.length)
 |c,o,[],_=>by simp [putL]
 | c,o,v::vs,h=>by
  simp only [List.length_cons] at h;rw [putL,zny _ _ _ (by simp;omega)]
  have h1:(c.set o v).take (o+1)=c.take o++ [v]:=by rw [List.take_add_one,List.take_set_of_le (Nat.le_refl o),List.getElem?_set_self (by omega)];rfl
  have h2:(c.set o v).drop (o+1+vs.length)=c.drop (o+(vs.length+1)):=by rw [List.drop_set_of_lt (by omega)];congr 1;omega
  rw [h1,h2];simp
theorem zo7 {w:World} (hs:Sat cx E s a w) {k i:Nat} {xs rows:List (List D)} (hi:hget s.h i=some (.arr k xs)) {cap:Nat} {olds news us:List Value} (ho:RepRows w (Xs E s.h) k xs olds) (hol:olds.length=xs.length*k) (hn:RepRows w (Xs E s.h) k rows news) (hnl:news.length=rows.length*k)
    (hr0:rows≠ []) (hc:xs.length+rows.length≤cap) {vs:Array Value} (hv:vs.toList=olds++news++us) (hz:vs.size=cap*k) (T:TypeId):
    Sat cx (E.set i (some w.heap.size) cap) { s with h:=hset s.h i (.arr k (xs++rows)) } a (w.alloc (.cells vs T))∧Evo cx.fl E s.h w (E.set i (some w.heap.size) cap) (hset s.h i (.arr k (xs++rows))) (w.alloc (.cells vs T))∧
    Rep (w.alloc (.cells vs T)) (E.set i (some w.heap.size) cap) (hset s.h i (.arr k (xs++rows))) (.osl i k (xs.length+rows.length) 0 (xs.length+rows.length)) (.slice (some ⟨w.heap.size,0,none⟩) (xs.length+rows.length) cap):=by
  have hlen0:rows.length≠0:=by simpa using hr0
  have c:Chg E s.h w (E.set i (some w.heap.size) cap) (hset s.h i (.arr k (xs++rows))) (w.alloc (.cells vs T)) i:=
    { os:=rfl,tape:=rfl,output:=rfl,size:=by simp,envO:=fun j e=>by simp [Env.set,e],envC:=fun j e=>by simp [Env.set,e],M:=rfl,N:=rfl,hh:=fun j e=>zH e,
      gi:=by
        unfold GoesOn
        rw [hi]
        exact ⟨_,zh hi,by simp,fun e=>absurd (by rw [List.length_append] at e;omega:rows.length=0) hlen0⟩
      blk:=fun b hb _=>by
        show (w.heap.push _)[b]?=_
        rw [Array.getElem?_push,if_neg (by omega)]
      new:=fun b _ hb=>by
        simp only [Env.set,if_true,Option.some.injEq] at hb
        subst hb
        exact .inr ⟨Nat.le_refl _,by simp⟩ }
  refine ⟨c.sat hs (fun o ho'=>?_),c.evo (.inl (by simp [hi])),?_⟩
  · rw [zh hi] at ho'
    cases ho'
    simp only [RepObj]
    refine .inr ⟨w.heap.size,vs,T,(0,0),by simp [Env.set],zdb w _,by simpa [Env.set] using hz,by simpa [Env.set] using hc,?_,by simp [zbf]⟩
    rw [hv]
    have h1:=RepRows.append (c.rows ho) (c.rows hn) hol
    refine RepRows.congr h1 ?_
    rw [List.length_append,List.take_append_of_le_length (l₁:=olds++news) (by rw [List.length_append,hol,hnl,Nat.add_mul];omega)]
  · simp only [Rep]
    exact ⟨⟨_,_,_,rfl⟩,xs++rows,zh hi,by simp,by omega,fun _=> .inr (.inl ⟨w.heap.size,by simp [Env.set],by simp [Env.set]⟩)⟩
theorem znz {w:World} (hs:Sat cx E s a w) {k i b:Nat} {xs rows:List (List D)} (hi:hget s.h i=some (.arr k xs)) (hb:E.O i=some b) {c:Array Value} {T:TypeId} {fz:Nat×Nat} (hc:w.heap[b]?=some (.cells c T fz)) (hcs:c.size=E.C i*k)
    (hx:RepRows w (Xs E s.h) k xs c.toList) (hf:zbf fz c.size) {news:List Value} (hn:RepRows w (Xs E s.h) k rows news) (hnl:news.length=rows.length*k) (hcap:xs.length+rows.length≤E.C i):
    Sat cx E { s with h:=hset s.h i (.arr k (xs++rows)) } a (World.row w b (.cells (putA c (xs.length*k) news) T fz))∧Evo cx.fl E s.h w E (hset s.h i (.arr k (xs++rows))) (World.row w b (.cells (putA c (xs.length*k) news) T fz))∧
    Rep (World.row w b (.cells (putA c (xs.length*k) news) T fz)) E (hset s.h i (.arr k (xs++rows))) (.osl i k (xs.length+rows.length) 0 (xs.length+rows.length)) (.slice (some ⟨b,0,none⟩) (xs.length+rows.length) (E.C i)):=by
  have hblt:=(Array.getElem?_eq_some_iff.1 hc).1
  have ch:Chg E s.h w E (hset s.h i (.arr k (xs++rows))) (World.row w b (.cells (putA c (xs.length*k) news) T fz)) i:=
    { os:=rfl,tape:=rfl,output:=rfl,size:=by simp,envO:=fun j e=>rfl,envC:=fun j e=>rfl,M:=rfl,N:=rfl,hh:=fun j e=>zH e,
      gi:=by
        unfold GoesOn
        rw [hi]
        exact ⟨_,zh hi,by simp,fun _=>⟨rfl,rfl⟩⟩
      blk:=fun j hj hn=>zdP (fun e=>hn ⟨by simp [hi],by rw [hb,e]⟩)
      new:=fun j _ hj=> .inl ⟨by simp [hi],hj⟩ }
  have hle:xs.length*k+news.length≤c.toList.length:=by
    rw [hnl,← Nat.add_mul]
    simp only [Array.length_toList,hcs]
    exact Nat.mul_le_mul_right _ hcap
  refine ⟨ch.sat hs (fun o ho'=>?_),ch.evo (.inl (by simp [hi])),?_⟩
  · rw [zh hi] at ho'
    cases ho'
    simp only [RepObj]
    refine .inr ⟨b,_,T,fz,hb,zel hblt,by rw [zcz];exact hcs,by simpa using hcap,?_,by rw [zcz];exact hf⟩
    rw [zci,zny _ _ _ hle]
    have hxl:(c.toList.take (xs.length*k)).length=xs.length*k:=by rw [List.length_take];omega
    have hx':RepRows w (Xs E s.h) k xs (c.toList.take (xs.length*k)):=RepRows.congr hx (by rw [List.take_take,Nat.min_self])
    have h1:=RepRows.append (ch.rows hx') (ch.rows hn) hxl
    refine RepRows.congr h1 ?_
    rw [List.length_append,List.take_append_of_le_length (l₁:=c.toList.take (xs.length*k)++news) (by rw [List.length_append,hxl,hnl,Nat.add_mul];omega)]
  · simp only [Rep]
    exact ⟨⟨_,_,_,rfl⟩,xs++rows,zh hi,by simp,by omega,fun _=> .inr (.inl ⟨b,hb,by simp⟩)⟩
theorem zkL {t:TypeId} {e:Nat} (ht:(ty P t).td= .slice e) (p:Option Addr) (l c:Nat) (w:World):(Op.equal t (.slice p l c) (.slice none 0 0)).run P w= .ok p.isNone w:=by show (Op.equalIn (9999+1) t _ _).run P w=_;unfold Op.equalIn;cases p<;>simp only [Sem.run_bind,run_underlying (zO ht),Result.andThen_ok,Sem.run_pure,Option.isNone_none,Option.isNone_some]
theorem zj8 (hp:SatH E s.h W) {x:AV} {v:Value} {R:Bool->Prop} (hr:Rep W E s.h x v) (h:zfl s x R):∃p l c,v= .slice p l c/\R p.isNone:=by
 unfold zfl at h;split at h
 ·simp only [Rep] at hr;exact ⟨_,_,_,hr,h⟩
 ·simp only [Rep] at hr;obtain ⟨a,cap,c,T,fz,rfl,_⟩:=hr;exact ⟨_,_,_,rfl,h⟩
 ·simp only [Rep] at hr;obtain ⟨b,cs,h1,h2,h3,rfl⟩:=hr;exact ⟨_,_,_,rfl,h⟩
 ·simp only [Rep,RepD] at hr;rcases hr with ⟨rfl,a,cap,rfl⟩|⟨a,cap,c,T,fz,rfl,h2⟩
  ·exact ⟨_,_,_,rfl,h _ (λ_=>rfl)⟩
  ·exact ⟨_,_,_,rfl,h _ (λe=>by cases e)⟩
 ·rename_i i k n off len;obtain ⟨hcur,h⟩:=h;unfold AS.cur at hcur;split at hcur
  ·rename_i k' xs hi;obtain ⟨rfl,rfl⟩:=hcur;simp only [Rep] at hr;obtain ⟨_,xs',h1,h2,h3,h4⟩:=hr;rw [hi] at h1;cases h1;rcases h4 rfl with ⟨⟨g1,g10⟩,rfl⟩|⟨b,g1,rfl⟩|⟨g1,rfl,a,cap,rfl⟩
   ·exact ⟨_,_,_,rfl,h _ (λ_=>by omega)⟩
   ·exact ⟨_,_,_,rfl,h _ (λe=>by cases e)⟩
   ·exact ⟨_,_,_,rfl,h _ (λ_=>rfl)⟩
  ·exact hcur.elim
 ·exact h.elim
theorem znA (hs:Sat cx E s a W) (dst:Option Tmp) (ot:TypeId) (pos:String) (after:Array Edge) (guard:Option (Nat×Bool)) (t:TypeId) (l c:Operand) (h:zao cx.fl P s (.makeSlice t l c) K):Does P (execOp a.eval ⟨dst,.makeSlice t l c,ot,pos,after,guard⟩) W (zg5 cx E s a W K):=by
 unfold zao at h;dsimp only at h;split at h
 ·rename_i e gl n gc m ht hl hc;obtain ⟨rfl,rfl,rfl,h0,hby,hn,hz,hne,hk0,h⟩:=h;split at h
  ·rename_i zs hzs;obtain ⟨i,z,h1,h2,h3,h3b,h4,h5⟩:=zj7 hz hzs;have hvl:=ev_ok hs.slots l (by rw [hl]);have hvc:=ev_ok hs.slots c (by rw [hc]);rw [hl] at hvl;rw [hc] at hvc;simp only [Rep,RepD] at hvl hvc;have hmade:madeCells z.cells (n.toNat*i.size)=(Array.range (n.toNat*i.size)).map (z.cells[· % z.cells.size]!):=rfl;have hrun:=run_make (P:=P) W t e i z (zO ht) h1 h2 .i64 .i64 n n h0 (Int.le_refl _) (by rw [h3b,Int.mul_comm];omega) (by omega);have hzl:zs.length=(ty P e).size:=by have:=RepDs.length (h5 W (Xs E s.h));simp at this;omega
   have hrows:=zhF (k:=(ty P e).size) (z:=z.cells) hzl h4 (h5 W (Xs E s.h)) n.toNat n.toNat (Nat.le_refl _);obtain ⟨q1,q2,q3⟩:=zgi hs (k:=(ty P e).size) (cap:=n.toNat) (xs:=List.replicate n.toNat zs) (vs:=madeCells z.cells (n.toNat*i.size)) (by rw [hmade,h3];exact hrows) (by simp) (by rw [hmade,h3];simp) e _ rfl;rw [List.length_replicate] at q3;refine .inl ⟨_,_,?_,_,_,_,h,q1,q2,q3⟩;simp only [execOp,hvl,hvc,Sem.run_bind,hrun,Result.andThen_ok,Sem.run_pure]
  ·exact h.elim
 ·exact h.elim
theorem zo8 {w:World} (hs:Sat cx E s a w) {k i b:Nat} {xs rows:List (List D)} (hi:hget s.h i=some (.arr k xs)) (hb:E.O i=some b) {c:Array Value} {T:TypeId} {fz:Nat×Nat} (hc:w.heap[b]?=some (.cells c T fz)) (hcs:c.size=E.C i*k) (hxc:xs.length≤E.C i)
    (hx:RepRows w (Xs E s.h) k xs c.toList) (hf:zbf fz c.size) {news:List Value} (hn:RepRows w (Xs E s.h) k rows news) (hnl:news.length=rows.length*k) {off:Nat} (hl:off+rows.length≤xs.length):
    Sat cx E { s with h:=hset s.h i (.arr k (rput xs off rows)) } a (World.row w b (.cells (putA c (off*k) news) T fz))∧Evo cx.fl E s.h w E (hset s.h i (.arr k (rput xs off rows))) (World.row w b (.cells (putA c (off*k) news) T fz)):=by
  have hlen:(rput xs off rows).length=xs.length:=by unfold rput;simp;omega
  have hblt:=(Array.getElem?_eq_some_iff.1 hc).1
  have ch:Chg E s.h w E (hset s.h i (.arr k (rput xs off rows))) (World.row w b (.cells (putA c (off*k) news) T fz)) i:=
    { os:=rfl,tape:=rfl,output:=rfl,size:=by simp,envO:=fun j e=>rfl,envC:=fun j e=>rfl,M:=rfl,N:=rfl,hh:=fun j e=>zH e,
      gi:=by
        unfold GoesOn
        rw [hi]
        exact ⟨_,zh hi,by rw [hlen];exact Nat.le_refl _,fun _=>⟨rfl,rfl⟩⟩
      blk:=fun j hj hn=>zdP (fun e=>hn ⟨by simp [hi],by rw [hb,e]⟩)
      new:=fun j _ hj=> .inl ⟨by simp [hi],hj⟩ }
  have hle:off*k+news.length≤c.toList.length:=by
    rw [hnl,← Nat.add_mul]
    simp only [Array.length_toList,hcs]
    exact Nat.mul_le_mul_right _ (by omega)
  refine ⟨ch.sat hs (fun o ho'=>?_),ch.evo (.inl (by simp [hi]))⟩
  rw [zh hi] at ho'
  cases ho'
  simp only [RepObj]
  refine .inr ⟨b,_,T,fz,hb,zel hblt,by rw [zcz];exact hcs,by rw [hlen];exact hxc,?_,by rw [zcz];exact hf⟩
  rw [zci,zny _ _ _ hle]
  have h1l:(c.toList.take (off*k)).length=off*k:=by rw [List.length_take];omega
  have h1:RepRows w (Xs E s.h) k (xs.take off) (c.toList.take (off*k)):=by
    refine RepRows.congr (hx.take off) ?_
    rw [List.take_take,List.length_take,Nat.min_eq_left (by omega),Nat.min_self]
  have h3:RepRows w (Xs E s.h) k (xs.drop (off+rows.length)) (c.toList.drop (off*k+news.length)):=by
    have:=RepRows.drop hx (off+rows.length)
    rwa [Nat.add_mul,← hnl] at this
  unfold rput
  exact RepRows.append (RepRows.append (ch.rows h1) (ch.rows hn) (by rw [h1l,List.length_take,Nat.min_eq_left (by omega)])) (ch.rows h3) (by
    rw [List.length_append,h1l,hnl,List.length_append,List.length_take,Nat.min_eq_left (by omega),Nat.add_mul])
theorem zv8 (hp:SatH E s.h W) {i k m off len:Nat} {v:Value} (hr:Rep W E s.h (.osl i k m off len) v) {xs:List (List D)} (hi:hget s.h i=some (.arr k xs)) (hm:m=xs.length) (hl:off+len<=m):
  (len=0/\∃p cap,v= .slice p 0 cap)\/(∃b c T fz cap,E.O i=some b/\v= .slice (some ⟨b,off*k,none⟩) len cap/\W.heap[b]?=some (.cells c T fz)/\c.size=E.C i*k/\xs.length<=E.C i/\RepRows W (Xs E s.h) k xs c.toList/\zbf fz c.size):=by
 simp only [Rep] at hr;obtain ⟨_,xs',g1,_,_,g2⟩:=hr;rw [hi] at g1;cases g1;have hob:=hp.heap i _ hi;simp only [RepObj] at hob;rcases g2 hm.symm with ⟨⟨g3,g30⟩,hxv⟩|⟨b,g3,hxv⟩|⟨g3,g4,p,cap,hxv⟩
 ·have:len=0:=by omega
  exact .inl ⟨this,none,0,hxv⟩
 ·rcases hob with ⟨q1,_⟩|⟨b',cc,T,fz,q1,q2,q3,q4,q5,q6⟩
  ·rw [g3] at q1;cases q1
  ·rw [g3] at q1;cases q1;exact .inr ⟨b,cc,T,fz,_,g3,hxv,q2,q3,q4,q5,q6⟩
 ·exact .inl ⟨g4,p,cap,hxv⟩
theorem zkM (xs:List (List D)) (off:Nat):rput xs off []=xs:=by simp [rput]
theorem znB (hs:Sat cx E s a W) (dst:Option Tmp) (ot:TypeId) (pos:String) (after:Array Edge) (guard:Option (Nat×Bool)) (c:Call) (hcal:c.callee= .builtin .copy) (h:zao cx.fl P s (.call c) K):Does P (execOp a.eval ⟨dst,.call c,ot,pos,after,guard⟩) W (zg5 cx E s a W K):=by
 unfold zao at h
 dsimp only at h
 rw [hcal] at h
 dsimp only at h
 split at h
 ·rename_i x y t u hargs htys
  split at h
  ·rename_i e ht
   obtain ⟨hgx,hgy,hz,hk0,h⟩:=h
   split at h
   ·rename_i rows hrows
    split at h
    ·rename_i i k m off len hxe
     split at h
     ·rename_i k' xs hi
      obtain ⟨rfl,rfl,rfl,hol,hrl,hk⟩:=h
      have hx:=ev_ok hs.slots x hgx
      have hy:=ev_ok hs.slots y hgy
      obtain ⟨inf,z,h1,_,_,_,_,h6⟩:=zih hz
      obtain ⟨news,n1,n2,n3,n4,n5,_⟩:=zv7 hs.hp hy hrows
      have hca:c.args= #[x,y]:=by rw [← hargs]
      have hct:c.argTypes= #[t,u]:=by rw [← htys]
      rw [hxe] at hx
      have hexec:∀w',(Builtin.copy_ #[t,u] ot #[a.eval x,a.eval y]).run P W= .ok (.int .i64 rows.length) w'→(execOp a.eval ⟨dst,.call c,ot,pos,after,guard⟩).run P W= .ok (.value (.int .i64 rows.length)) w':=by
       intro w' hr
       simp only [execOp,resolve,hcal,hca,hct,Sem.run_bind,Sem.run_pure,Result.andThen_ok,invoke,builtin]
       simp [hr]
      have hsz:(sizeOf e).run P W= .ok (ty P e).size W:=by
       simp [sizeOf,typeInfo,h1,h6]
      have hrun:∀ (p:Option Addr) (cap:Nat),a.eval x= .slice p len cap→(Builtin.copy_ #[t,u] ot #[a.eval x,a.eval y]).run P W=((match p with|some q=>storeCells q news|none=>pure ()) >>= fun _=>pure (goInt rows.length)).run P W:=by
       intro p cap ex
       rw [ex]
       have hmin:Nat.min rows.length len=rows.length:=Nat.min_eq_left hrl
       cases p<;>simp [Builtin.copy_,run_underlying (zO ht),n4,hmin,hsz,n5 W rfl]
      rcases zv8 hs.hp hx hi rfl hol with ⟨rfl,p,cap,ex⟩|⟨b,cc,T,fz,cap,g3,ex,q2,q3,q4,q5,q6⟩
      ·have hr0:rows= []:=List.length_eq_zero_iff.1 (by omega)
       subst hr0
       have hn0:news= []:=by simpa using n1
       subst hn0
       have hset:hset s.h i (.arr (ty P e).size (rput xs off []))=s.h:=by rw [zkM];exact zg6 hi
       rw [hset] at hk
       refine .inl ⟨_,_,hexec W ?_,E,s.h,_,hk,hs,Evo.refl _ _ _ _,by simp [Rep,RepD]⟩
       rw [hrun p cap ex]
       cases p<;>simp [storeCells,goInt]
      ·have hle:off*(ty P e).size+0+news.length≤cc.size:=by
        rw [n1,q3,Nat.add_zero,← Nat.add_mul]
        exact Nat.mul_le_mul_right _ (by omega)
       have hst:=zca (P:=P) (off*(ty P e).size) news 0 cc W q2 q6 hle n3
       obtain ⟨r1,r2⟩:=zo8 hs hi g3 q2 q3 q4 q5 q6 n2 n1 (off:=off) (by omega)
       refine .inl ⟨_,_,hexec _ ?_,E,_,_,hk,r1,r2,by simp [Rep,RepD]⟩
       rw [hrun _ _ ex]
       simp only [Sem.run_bind,hst,Result.andThen_ok,Sem.run_pure,goInt]
       rfl
     ·exact h.elim
    ·exact h.elim
   ·exact h.elim
  ·exact h.elim
 ·exact h.elim
theorem zl4 (hs:Sat cx E s a W) (dst:Option Tmp) (ot:TypeId) (pos:String) (after:Array Edge) (guard:Option (Nat×Bool)) (c:Call) (hcal:c.callee= .builtin .clear) (h:zao cx.fl P s (.call c) K):Does P (execOp a.eval ⟨dst,.call c,ot,pos,after,guard⟩) W (zg5 cx E s a W K):=by
 unfold zao at h
 dsimp only at h
 rw [hcal] at h
 dsimp only at h
 split at h
 ·rename_i x t hargs htys
  split at h
  ·rename_i e ht
   obtain ⟨hgx,hz,hne,hk0,h⟩:=h
   split at h
   ·rename_i zs hzr
    split at h
    ·rename_i i k m off len hxe
     split at h
     ·rename_i k' xs hi
      obtain ⟨rfl,rfl,rfl,hol,hk⟩:=h
      have hx:=ev_ok hs.slots x hgx
      obtain ⟨inf,z,h1,h2,h3,_,h4,h5⟩:=zj7 hz hzr
      have hzl:zs.length=(ty P e).size:=by
       have:=RepDs.length (h5 W (Xs E s.h))
       rw [← this];simpa using h4
      have hca:c.args= #[x]:=by rw [← hargs]
      have hct:c.argTypes= #[t]:=by rw [← htys]
      rw [hxe] at hx
      have hexec:∀w',(Builtin.clear_ #[t] ot #[a.eval x]).run P W= .ok (.tuple #[]) w'→(execOp a.eval ⟨dst,.call c,ot,pos,after,guard⟩).run P W= .ok (.value (.tuple #[])) w':=by
       intro w' hr
       simp only [execOp,resolve,hcal,hca,hct,Sem.run_bind,Sem.run_pure,Result.andThen_ok,invoke,builtin]
       simp [hr]
      have hzv:(zeroValue e).run P W= .ok z W:=by
       simp [zeroValue,typeInfo,h1,h2]
      rcases zv8 hs.hp hx hi rfl hol with ⟨rfl,p,cap,ex⟩|⟨b,cc,T,fz,cap,g3,ex,q2,q3,q4,q5,q6⟩
      ·have hset:hset s.h i (.arr (ty P e).size (rput xs off (List.replicate 0 zs)))=s.h:=by rw [List.replicate_zero,zkM];exact zg6 hi
       rw [hset] at hk
       refine .inl ⟨_,_,hexec W ?_,E,s.h,_,hk,hs,Evo.refl _ _ _ _,by simp [Rep,Reps]⟩
       rw [ex]
       cases p<;>simp [Builtin.clear_,run_underlying (zO ht)]
      ·cases len with
       |zero=>
        have hset:hset s.h i (.arr (ty P e).size (rput xs off (List.replicate 0 zs)))=s.h:=by rw [List.replicate_zero,zkM];exact zg6 hi
        rw [hset] at hk
        refine .inl ⟨_,_,hexec W ?_,E,s.h,_,hk,hs,Evo.refl _ _ _ _,by simp [Rep,Reps]⟩
        rw [ex]
        simp [Builtin.clear_,run_underlying (zO ht)]
       | succ n=>
        obtain ⟨news,hnews⟩:∃news,news=(Builtin.zeroCells z.cells (n+1)).toList:=⟨_,rfl⟩
        have n1:news.length=(List.replicate (n+1) zs).length*(ty P e).size:=by rw [hnews,List.length_replicate];simp [size_zeroCells,h4]
        have n2:RepRows W (Xs E s.h) (ty P e).size (List.replicate (n+1) zs) news:=by
         rw [hnews]
         have:=zhF (X:=Xs E s.h) (k:=(ty P e).size) hzl (by simpa using h4) (h5 W (Xs E s.h)) (n+1) (n+1) (Nat.le_refl _)
         unfold Builtin.zeroCells
         rw [h4]
         rw [h4] at this
         exact this
        have n3:∀y∈news,y.oneCell'=true:=RepRows.oneCells n2 n1
        have hle:off*(ty P e).size+0+news.length≤cc.size:=by
         rw [n1,q3,Nat.add_zero,← Nat.add_mul,List.length_replicate]
         exact Nat.mul_le_mul_right _ (by omega)
        have hst:=zca (P:=P) (off*(ty P e).size) news 0 cc W q2 q6 hle n3
        obtain ⟨r1,r2⟩:=zo8 hs hi g3 q2 q3 q4 q5 q6 n2 n1 (off:=off) (by rw [List.length_replicate];omega)
        refine .inl ⟨_,_,hexec _ ?_,E,_,_,hk,r1,r2,by simp [Rep,Reps]⟩
        rw [ex]
        simp only [Builtin.clear_,List.getElem?_toArray,List.getElem?_cons_zero,Sem.run_bind,run_underlying (zO ht),Result.andThen_ok,hzv]
        rw [← hnews,hst]
        rfl
     ·exact h.elim
    ·exact h.elim
   ·exact h.elim
  ·exact h.elim
 ·exact h.elim
theorem znC (hs : Sat cx E s a W) (dst:Option Tmp) (ot:TypeId) (pos:String) (after:Array Edge) (guard:Option (Nat×Bool)) (c:Call) (h:zao cx.fl P s (.call c) K):Does P (execOp a.eval ⟨dst,.call c,ot,pos,after,guard⟩) W (zg5 cx E s a W K):=by
  have hdrew:Evo cx.fl E s.h W E s.h W.drew:=⟨rfl,rfl,rfl,Nat.le_refl _,fun _ _ _ _=>rfl,fun _ h=> .inl h,fun _ h=>h,fun _ h=> .inl h,rfl,fun i _ h=>⟨h,GoesOn.refl E _ i⟩⟩
  unfold zao at h
  dsimp only at h
  split at h
  · rename_i hcal
    split at h
    · rename_i x y t u hargs htys
      split at h
      · rename_i e ht
        obtain ⟨hgx,hgy,hz,hne,hk0,h⟩:=h
        obtain ⟨i,z,h1,h2,h3,h3b,h4,h5⟩:∃i z,P.info? e=some i∧i.zero=some z∧i.size=(ty P e).size∧i.bytes=(ty P e).bytes∧z.cells.size=(ty P e).size∧True:=by
          obtain ⟨i,z,g1,g2,g3,g4,g5,g6⟩:=zih hz
          exact ⟨i,z,g1,g2,g6,by simp [ty,Program.bytesOf,g1],by rw [g5,g6],trivial⟩
        have hx:=ev_ok hs.slots x hgx
        have hy:=ev_ok hs.slots y hgy
        split at h
        · rename_i rows hrows
          obtain ⟨news,n1,n2,n3,n4,n5,d,hd1,hd2⟩:=zv7 hs.hp hy hrows
          have hca:c.args= #[x,y]:=by rw [← hargs]
          have hct:c.argTypes= #[t,u]:=by rw [← htys]
          have hexec:∀v w',(Builtin.append_ #[t,u] ot #[a.eval x,a.eval y]).run P W= .ok v w'→(execOp a.eval ⟨dst,.call c,ot,pos,after,guard⟩).run P W= .ok (.value v) w':=by
            intro v w' hr
            simp only [execOp,resolve,hcal,hca,hct,Sem.run_bind,Sem.run_pure,Result.andThen_ok,invoke,builtin]
            simp [hr]
          have fits:∀need old:Nat,old<need→need*(ty P e).bytes≤140737488355328→Builtin.nextslicecap need old*i.bytes≤281474976710656:=fun need old hlt hb=>growslice_fits hlt (by rw [h3b];exact hb)
          have hfresh:∀ (base:Option Addr) (sCap:Nat),a.eval x= .slice base 0 sCap→sCap=0→rows.length*(ty P e).bytes≤140737488355328→rows.length≤140737488355328→rows≠ []→
              (∃w',(Builtin.append_ #[t,u] ot #[a.eval x,a.eval y]).run P W= .ok (.slice (some ⟨W.heap.size,0,none⟩) rows.length (grownCap W rows.length 0 e)) w'∧
                w'=W.drew.alloc (.cells (news.toArray++Builtin.zeroCells z.cells (grownCap W rows.length 0 e - rows.length)) e)):=by
            intro base sCap e1 e2 hb1 hb2 hne0
            subst e2
            have hpos:0<rows.length:=List.length_pos_iff.2 hne0
            have:=zfb (P:=P) (ty:=ot) (u:=u) (zO ht) hd1 hd2 h1 h2 (w:=W) (base:=base) (sLen:=0) (sCap:=0) (n:=rows.length) (x:=a.eval y) (olds:= []) (news:=news) n4
              (fun W' hW=>by cases base<;>simp [Builtin.firstCells,loadCells,loadCellsFrom]) (fun W' hW=>by rw [h3];exact n5 W' hW) (by omega) (by omega) (by rw [Nat.zero_add];exact fits _ _ hpos hb1)
            rw [e1]
            simp only [Nat.zero_add] at this
            exact ⟨_,this,by simp⟩
          split at h
          · rename_i k hxe
            obtain ⟨hb1,hb2,hk⟩:=h
            rw [hxe] at hx
            simp only [Rep] at hx
            by_cases hne0:rows= []
            · -- nothing behind nothing: the nil slice, aZ an array that has no block
              subst hne0
              have hr:=zfc (P:=P) (ty:=ot) (zO ht) hd1 hd2 h1 (w:=W) (base:=none) (sLen:=0) (sCap:=0) (x:=a.eval y) (by simpa using n4) (by
                have:=n5 W rfl
                have e0:news= []:=by simpa using n1
                subst e0
                rw [h3];simpa using this) (Nat.le_refl _)
              rw [← hx] at hr
              have cc:Chg E s.h W (E.set (fresh cx.fl s.h) none 0) ((fresh cx.fl s.h,.arr (ty P e).size [])::s.h) W (fresh cx.fl s.h):=
                { os:=rfl,tape:=rfl,output:=rfl,size:=Nat.le_refl _,envO:=fun j e=>by simp [Env.set,e],envC:=fun j e=>by simp [Env.set,e],M:=rfl,N:=rfl,hh:=fun j e=>by simp [hget,Ne.symm e],
                  gi:=by simp [GoesOn,zcO]
                  blk:=fun b hb _=>rfl
                  new:=fun b _ hb=>by simp [Env.set] at hb }
              refine .inl ⟨_,_,hexec _ _ hr,_,_,_,hk,cc.sat hs (fun o ho=>?_),cc.evo (.inr (zbb _ _)),?_⟩
              · simp [hget] at ho
                subst ho
                simp only [RepObj]
                exact .inl ⟨by simp [Env.set],.inl trivial⟩
              · simp only [Rep]
                exact ⟨⟨_,_,_,hx⟩,[],by simp [hget],by simp,by simp,fun _=> .inl ⟨⟨by simp [Env.set],rfl⟩,hx⟩⟩
            · obtain ⟨w',hr,hw'⟩:=hfresh none 0 hx rfl hb1 hb2 hne0
              have hcap:=grownCap_ge W rows.length 0 e
              obtain ⟨q1,q2,q3⟩:=zgi hs.drew (k:=(ty P e).size) (cap:=grownCap W rows.length 0 e) (xs:=rows) (vs:=news.toArray++Builtin.zeroCells z.cells (grownCap W rows.length 0 e - rows.length)) (by
                simp only [Array.toList_append]
                have:=RepRows.append (xs:=rows) (ys:= []) (vs:=news) (ws:=(Builtin.zeroCells z.cells (grownCap W rows.length 0 e - rows.length)).toList) (k:=(ty P e).size) (RepRows.step (W:=W) (W':=W.drew) (fun _ _ hx=>hx) (fun _ _ _=>rfl) _ _ _ n2) (by simp [RepRows]) n1
                simpa using this) hcap (by
                simp only [Array.size_append,List.size_toArray,n1,size_zeroCells,h4,← Nat.add_mul]
                congr 1;omega) e _ hw'
              exact .inl ⟨_,_,hexec _ _ hr,_,_,_,hk,q1,Evo.trans (E':=E) (h':=s.h) (w':=W.drew) hdrew q2,q3⟩
          · rename_i i' k m off len hxe
            split at h
            · rename_i k' xs hi
              obtain ⟨rfl,rfl,rfl,rfl,rfl,hb1,hb2,hk⟩:=h
              rw [hxe] at hx
              simp only [Rep] at hx
              obtain ⟨_,xs',g1,_,_,g2⟩:=hx
              rw [hi] at g1;cases g1
              have hob:=hs.hp.heap i' _ hi
              simp only [RepObj] at hob
              rcases g2 rfl with ⟨⟨g3,g30⟩,hxv⟩|⟨b,g3,hxv⟩|⟨g3,_⟩
              · -- no block yet
                obtain rfl:xs= []:=List.length_eq_zero_iff.1 g30
                rcases hob with _|⟨b,cc,T,fz,q1,_⟩
                · simp only [List.length_nil,Nat.zero_add,List.nil_append] at hb1 hb2 hk
                  by_cases hne0:rows= []
                  · subst hne0
                    have hr:=zfc (P:=P) (ty:=ot) (zO ht) hd1 hd2 h1 (w:=W) (base:=none) (sLen:=0) (sCap:=0) (x:=a.eval y) (by simpa using n4) (by
                      have:=n5 W rfl
                      have e0:news= []:=by simpa using n1
                      subst e0
                      rw [h3];simpa using this) (Nat.le_refl _)
                    rw [← hxv] at hr
                    have hset:hset s.h i' (.arr (ty P e).size [])=s.h:=zg6 hi
                    rw [hset] at hk
                    refine .inl ⟨_,_,hexec _ _ hr,E,s.h,_,hk,hs,Evo.refl _ _ _ _,?_⟩
                    simp only [Rep]
                    exact ⟨⟨_,_,_,hxv⟩,[],hi,by simp,by simp,fun _=> .inl ⟨⟨g3,rfl⟩,hxv⟩⟩
                  · obtain ⟨w',hr,hw'⟩:=hfresh none 0 hxv rfl hb1 hb2 hne0
                    have hcap:=grownCap_ge W rows.length 0 e
                    subst hw'
                    obtain ⟨q1,q2,q3⟩:=zo7 (cap:=grownCap W rows.length 0 e) hs.drew hi (olds:= []) (news:=news) (us:=(Builtin.zeroCells z.cells (grownCap W rows.length 0 e - rows.length)).toList) (rows:=rows) (by simp [RepRows]) (by simp)
                      (RepRows.step (W:=W) (W':=W.drew) (fun _ _ hx=>hx) (fun _ _ _=>rfl) _ _ _ n2) n1 hne0 (by simpa using hcap) (vs:=news.toArray++Builtin.zeroCells z.cells (grownCap W rows.length 0 e - rows.length)) (by simp) (by
                        simp only [Array.size_append,List.size_toArray,n1,size_zeroCells,h4,← Nat.add_mul]
                        congr 1;omega) e
                    simp only [List.length_nil,Nat.zero_add,List.nil_append] at q1 q2 q3
                    exact .inl ⟨_,_,hexec _ _ hr,_,_,_,hk,q1,Evo.trans (E':=E) (h':=s.h) (w':=W.drew) hdrew q2,q3⟩
                · rw [g3] at q1;cases q1
              · rcases hob with ⟨q1,_⟩|⟨b',cc,T,fz,q1,q2,q3,q4,q5,q6⟩
                · rw [g3] at q1;cases q1
                · rw [g3] at q1;cases q1
                  simp only [Nat.zero_mul,Nat.sub_zero] at hxv
                  have hcc:xs.length*(ty P e).size≤cc.toList.length:=RepRows.length_le q5
                  by_cases hroom:xs.length+rows.length≤E.C i'
                  · have hfit:xs.length*i.size+news.length≤cc.size:=by
                      rw [h3,n1,← Nat.add_mul,q3]
                      exact Nat.mul_le_mul_right _ hroom
                    have hr:=zhU (P:=P) (ty:=ot) (zO ht) hd1 hd2 h1 (w:=W) (g:=b) (sLen:=xs.length) (sCap:=E.C i') (x:=a.eval y) (news:=news) n4 (by rw [h3];exact n5 W rfl) q2 q6 n3 hfit hroom
                    rw [← hxv,h3] at hr
                    obtain ⟨r1,r2,r3⟩:=znz hs hi g3 q2 q3 q5 q6 n2 n1 hroom
                    exact .inl ⟨_,_,hexec _ _ hr,_,_,_,hk,r1,r2,r3⟩
                  · have hne0:rows≠ []:=by rintro rfl;simp at hroom;omega
                    have holds:((cc.toList).take (xs.length*(ty P e).size)).length=xs.length*(ty P e).size:=by rw [List.length_take];omega
                    have hr:=zfb (P:=P) (ty:=ot) (u:=u) (zO ht) hd1 hd2 h1 h2 (w:=W) (base:=some ⟨b,0,none⟩) (sLen:=xs.length) (sCap:=E.C i') (n:=rows.length) (x:=a.eval y) (olds:=(cc.toList).take (xs.length*(ty P e).size)) (news:=news) n4
                      (fun W' hW=>run_firstCells_some W' i.size xs.length ⟨b,0,none⟩ xs.length (E.C i') _ (by rw [holds,h3]) (fun j y hj=>by
                        rw [Addr.add_none,zac (by rw [hW];exact q2)]
                        rw [List.getElem?_take] at hj
                        split at hj
                        · simpa using hj
                        · cases hj)) (fun W' hW=>by rw [h3];exact n5 W' hW) (by omega) (by omega) (fits _ _ (by omega) hb1)
                    rw [← hxv] at hr
                    have hcap:=grownCap_ge W (xs.length+rows.length) (E.C i') e
                    obtain ⟨r1,r2,r3⟩:=zo7 (cap:=grownCap W (xs.length+rows.length) (E.C i') e) hs.drew hi (olds:=(cc.toList).take (xs.length*(ty P e).size)) (news:=news) (us:=(Builtin.zeroCells z.cells (grownCap W (xs.length+rows.length) (E.C i') e - (xs.length+rows.length))).toList) (rows:=rows)
                      (RepRows.step (W:=W) (W':=W.drew) (fun _ _ hx=>hx) (fun _ _ _=>rfl) _ _ _ (RepRows.congr q5 (by rw [List.take_take,Nat.min_self]))) holds
                      (RepRows.step (W:=W) (W':=W.drew) (fun _ _ hx=>hx) (fun _ _ _=>rfl) _ _ _ n2) n1 hne0 hcap (vs:=((cc.toList).take (xs.length*(ty P e).size)).toArray++news.toArray++Builtin.zeroCells z.cells (grownCap W (xs.length+rows.length) (E.C i') e - (xs.length+rows.length))) (by simp) (by
                        simp only [Array.size_append,List.size_toArray,n1,holds,size_zeroCells,h4,← Nat.add_mul]
                        congr 1;omega) e
                    exact .inl ⟨_,_,hexec _ _ hr,_,_,_,hk,r1,Evo.trans (E':=E) (h':=s.h) (w':=W.drew) hdrew r2,r3⟩
              · exact absurd rfl g3
            · exact h.elim
          · exact h.elim
        · exact h.elim
      · exact h.elim
    · exact h.elim
  · rename_i hcal
    exact znB hs dst ot pos after guard c hcal (by unfold zao;dsimp only;rw [hcal];exact h)
  · rename_i hcal
    exact zl4 hs dst ot pos after guard c hcal (by unfold zao;dsimp only;rw [hcal];exact h)
  · exact h.elim
theorem zrJ (hs:Sat cx E s a W) (o:Oper) (h:zao cx.fl P s o.op K):Does P (execOp a.eval o) W (zg5 cx E s a W K):=by
 have hdrew:Evo cx.fl E s.h W E s.h W.drew:=⟨rfl,rfl,rfl,Nat.le_refl _,λ_ _ _ _=>rfl,λ_ h=> .inl h,λ_ h=>h,λ_ h=> .inl h,rfl,λi _ h=>⟨h,GoesOn.refl E _ i⟩⟩
 obtain ⟨dst,op,ot,pos,after,guard⟩:=o;dsimp only at h;unfold zao at h;split at h
 ·rename_i src dt x;split at h
  ·rename_i e hsrc hdst;split at h
   ·rename_i g l hx;obtain ⟨rfl,he,hk⟩:=h;have hv:=ev_ok hs.slots x (by rw [hx]);rw [hx] at hv;simp only [Rep,RepD] at hv;have hrun:=run_bytes_of_string (P:=P) W src dt e ⟨l.toArray⟩ (zcy hsrc) (zO hdst) (zgh he);have hsz:(⟨l.toArray⟩:ByteArray).size=l.length:=by simp [ByteArray.size]
    rw [hsz] at hrun;have hcap:=grownCap_ge W l.length 0 e
    obtain ⟨q1,q2,q3⟩:=zjG (k:=1) (cap:=grownCap W l.length 0 e) (xs:=zj l) (vs:=bytesRow ⟨l.toArray⟩ (grownCap W l.length 0 e)) hs.drew (by unfold bytesRow;simp only [Array.toList_append,Array.toList_map];exact zeP l _) (by simpa [zj] using hcap) (by simp [bytesRow,hsz];omega) e ((bytesRow ⟨l.toArray⟩ (grownCap W l.length 0 e)).size,(bytesRow ⟨l.toArray⟩ (grownCap W l.length 0 e)).size+1) (by intro o ho h;simp at h;omega) _ rfl
    have hln:(zj l).length=l.length:=by simp [zj]
    rw [hln] at q3;refine .inl ⟨_,_,?_,_,_,_,hk,q1,Evo.trans (E':=E) (h':=s.h) (w':=W.drew) hdrew q2,q3⟩;simp only [execOp,hv,Sem.run_bind,hrun,Result.andThen_ok,Sem.run_pure];rfl
   ·exact h.elim
  ·rename_i e hsrc hdst;split at h
   ·rename_i rows hrows;obtain ⟨hg,he,hb,hk⟩:=h;have hv:=ev_ok hs.slots x hg
    have hrun:(convert src dt (a.eval x)).run P W= .ok (.string ⟨(bytesOf rows).toArray⟩) W:=by
     rcases zo6 hs.hp hv hrows with ⟨rfl,a',cap,e1⟩|⟨b,off,cap,c,T,fz,e1,hc,hr⟩
     ·rw [e1,run_convert_bytes_string W src dt e _ 0 cap (zO hsrc) (zgh he) (zcy hdst)];cases a' with
      |none=>simp [Conv.bytesToString,bytesOf,ByteArray.empty,ByteArray.emptyWithCapacity];rfl
      |some a'=>
       have:=run_bytesToString (P:=P) W a' 0 cap [] (by simp [loadCells,loadCellsFrom]);rw [this];simp [bytesOf,ByteArray.empty,ByteArray.emptyWithCapacity];rfl
     ·rw [e1]
      have:=run_convert_bytes_arg (P:=P) W src e (zO hsrc) (zgh he) b off rows.length cap (rows.map numOf) (by simp) (λi hi=>by rw [zac hc];have:=zj6 rows _ hr hb i hi;rw [List.getElem?_drop] at this;simpa using this) dt (zcy hdst)
      rw [this,zij]
    refine .inl ⟨.string ⟨(bytesOf rows).toArray⟩,W,?_,E,s.h,_,hk,hs,Evo.refl _ _ _ _,by simp [Rep,RepD]⟩;simp only [execOp,Sem.run_bind,hrun,Result.andThen_ok,Sem.run_pure]
   ·exact h.elim
  ·exact h.elim
 ·rename_i bo t x y yt;split at h
  ·rename_i e ht;obtain ⟨hgx,hgy,h⟩:=h;have hx:=ev_ok hs.slots x hgx;have hy:=ev_ok hs.slots y hgy
   have hexec:∀ (bo:BinOp) (v:Value),(do eqGuard bo t x y (a.eval x) (a.eval y);binOp bo t (a.eval x) (a.eval y):Sem Value).run P W= .ok v W->(execOp a.eval ⟨dst,.binOp bo t x y yt,ot,pos,after,guard⟩).run P W= .ok (.value v) W:=by intro bo v hr;simp only [execOp,Sem.run_bind] at hr ⊢;rw [hr];rfl
   have hrunE:∀p l c,(do eqGuard .eql t x y (.slice p l c) (.slice none 0 0);binOp .eql t (.slice p l c) (.slice none 0 0):Sem Value).run P W=(do pure (.bool (<-Op.equal t (.slice p l c) (.slice none 0 0))):Sem Value).run P W:=λ_ _ _=>rfl;have hrunN:∀p l c,(do eqGuard .neq t x y (.slice p l c) (.slice none 0 0);binOp .neq t (.slice p l c) (.slice none 0 0):Sem Value).run P W=(do pure (.bool (!(<-Op.equal t (.slice p l c) (.slice none 0 0)))):Sem Value).run P W:=λ_ _ _=>rfl
   have hrun:∀p l c,(Op.equal t (.slice p l c) (.slice none 0 0)).run P W= .ok p.isNone W:=by intro p l c;exact zkL ht p l c W
   split at h
   ·rename_i hye;obtain ⟨p,l,c,e1,hk⟩:=zj8 hs.hp hx h;rw [hye] at hy;simp only [Rep] at hy;refine .inl ⟨.bool p.isNone,W,?_,E,s.h,_,hk,hs,Evo.refl _ _ _ _,by simp [Rep,RepD]⟩;exact hexec _ _ (by rw [e1,hy];simp only [hrunE,hrunN,hrun,Sem.run_bind,Sem.run_pure,Result.andThen_ok])
   ·rename_i hye;obtain ⟨p,l,c,e1,hk⟩:=zj8 hs.hp hx h;rw [hye] at hy;simp only [Rep] at hy;refine .inl ⟨.bool (!p.isNone),W,?_,E,s.h,_,hk,hs,Evo.refl _ _ _ _,by simp [Rep,RepD]⟩;exact hexec _ _ (by rw [e1,hy];simp only [hrunE,hrunN,hrun,Sem.run_bind,Sem.run_pure,Result.andThen_ok])
   ·exact h.elim
  ·exact h.elim
 ·exact znA hs dst ot pos after guard _ _ _ (by unfold zao;exact h)
 ·split at h
  ·rename_i t x _ _ g l ht hx;obtain ⟨rfl,h⟩:=h;have ex:=ev_ok hs.slots x (by rw [hx]);rw [hx] at ex;simp only [Rep,RepD] at ex;obtain ⟨q1,q2,q3⟩:=zp7 hs l;refine .inl ⟨_,_,?_,_,_,_,h,q1,q2,q3⟩;simp only [execOp,ex,Sem.run_bind,Instr.range,run_underlying (zcy ht),Result.andThen_ok,Sem.run_pure];rfl
  ·exact h.elim
 ·split at h
  ·rename_i x b _ g i hx;obtain ⟨rfl,rfl,h⟩:=h;split at h
   ·rename_i l p hi;have ex:=ev_ok hs.slots x (by rw [hx]);rw [hx] at ex;simp only [Rep] at ex;obtain ⟨b,l',p',g1,g2,g3⟩:=ex;rw [hi] at g1;cases g1;have ho:=hs.hp.heap i _ hi;simp only [RepObj] at ho;obtain ⟨b',p1,p2⟩:=ho;rw [g2] at p1;cases p1;have hlt:=(Array.getElem?_eq_some_iff.1 p2).1;have hsz:(⟨l.toArray⟩:ByteArray).size=l.length:=by simp [ByteArray.size]
    have hgo:(getObj b).run P W= .ok (.stringIter ⟨l.toArray⟩ p) W:=by simp [getObj,Sem.run,p2]
    split at h
    ·rename_i hp;obtain ⟨q1,q2⟩:=zx5 (p':=p+(Utf8.decode ⟨l.toArray⟩ p).2) hs hi g2 hlt;have hso:∀o,(setObj b o).run P W= .ok () (World.row W b o):=λo=>by simp [setObj,Sem.run,p2,World.row]
     refine .inl ⟨.tuple #[.bool true,.int .i64 p,.int .i32 (Utf8.decode ⟨l.toArray⟩ p).1],_,?_,E,_,_,h,q1,q2,by simp [Rep,Reps,RepD]⟩;simp only [execOp,g3,Sem.run_bind,Instr.next,hgo,Result.andThen_ok,hsz,hp,if_true,hso,Sem.run_pure,goInt]
    ·rename_i hp;refine .inl ⟨.tuple #[.bool false],_,?_,E,_,_,h,hs,Evo.refl _ _ _ _,by simp [Rep,Reps,RepD]⟩;simp only [execOp,g3,Sem.run_bind,Instr.next,hgo,Result.andThen_ok,hsz,hp,if_false,Sem.run_pure]
   ·exact h.elim
  ·exact h.elim
 ·split at h
  ·obtain ⟨q1,q2,q3⟩:=znx hs;refine .inl ⟨_,_,?_,_,_,_,h,q1,q2,q3⟩;simp [execOp,Instr.makeMap,newObj,Sem.run]
  ·exact h.elim
 ·split at h
  ·rename_i t m k v _ _ _ _ kt et gm i gk kd gv vd ht hm hk hv;obtain ⟨rfl,rfl,rfl,hsc,h⟩:=h;split at h
   ·rename_i es hes;obtain ⟨h1,h2,h⟩:=h;have em:=ev_ok hs.slots m (by rw [hm]);have ek:=ev_ok hs.slots k (by rw [hk]);have ev':=ev_ok hs.slots v (by rw [hv]);rw [hm] at em;rw [hk] at ek;rw [hv] at ev';simp only [Rep] at em ek ev';obtain ⟨b,es',g1,g2,g3⟩:=em
    have hes':es'=es:=by unfold AS.esOf at hes;rw [g1] at hes;simpa using hes
    subst hes';have ho:=hs.hp.heap i _ g1;simp only [RepObj] at ho;obtain ⟨b',mes,clock,p1,p2,p3⟩:=ho;rw [g2] at p1;cases p1;rw [zet (zg1 h1)] at ek;rw [zet hsc] at ev';obtain ⟨c',hrun⟩:=zjF (P:=P) (v:=vd) ht p2 p3 h1 h2;obtain ⟨q1,q2⟩:=zwD (c':=c') hs g1 g2 p2 (zuk p3 (zg1 h1) hsc clock);refine .inr ⟨_,?_,E,_,.any,h,q1,q2,by simp [Rep]⟩;simp only [execOp,g3,ek,ev',Sem.run_bind,hrun,Result.andThen_ok,Sem.run_pure]
   ·exact h.elim
  ·exact h.elim
 ·exact znC hs dst ot pos after guard _ (by unfold zao;exact h)
 ·exact h.elim
end
end Go.Aw
