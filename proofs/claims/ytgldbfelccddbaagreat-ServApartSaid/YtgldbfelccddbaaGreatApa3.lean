/- Lemmas. -/
import Derived.Test.YtgldbfelccddbaaGreatApa2
import Derived.CallsIn
import Derived.Laws.IdiomStrings
import Derived.Laws.BytesArg
import Derived.Laws.AppendOwn
import Derived.ChangeKeysEq
set_option linter.all false
set_option maxRecDepth 100000
set_option maxHeartbeats 2000000
namespace Go.Aw
open Go
def Does (P:Program) (vV:Sem Next) (w:World) (R:Value->World->Prop):Prop:=
 (∃v w',vV.run P w= .ok (.value v) w'/\R v w')\/(∃w',vV.run P w= .ok .skip w'/\R undef w')
def ziE (cx:Cx) (E:Env) (s:AS) (a:Act) (W:World) (K:AV->AHeap->Prop) (v:Value) (w':World):Prop:=
 ∃E' h' x,K x h'/\Sat cx E' { s with h:=h' } a w'/\Evo cx.fl E s.h W E' h' w'/\Rep w' E' h' x v
def zgE (b:UInt8):List D:= [.int .u8 b.toNat]
def zh (l:List UInt8):List (List D):=l.map zgE
def numOf:List D->Int
 | [.int _ n]=>n
 |_=>0
def zn9:List D->Bool
 | [.int .u8 _]=>true
 |_=>false
def bytesOf (rows:List (List D)):List UInt8:=rows.map λr=>UInt8.ofNat (numOf r).toNat
def rowsK (s:AS) (k:Nat):AV->Option (List (List D))
 | .nils _=>some []
 | .d (.sl J rows)=>if J=k then some rows else none
 | .osl i J m off len=>(match hget s.h i with
  |some (.arr tc xs)=>if J=k/\tc=k/\m=xs.length/\off+len<=m then some ((xs.drop off).take len) else none
  |_=>none)
 | .vsl i J off len=>(match hget s.h i with
  |some (.var cs)=>if J=1/\k=1/\off+len<=cs.length then (toDs ((cs.drop off).take len)).map λds=>ds.map λd=> [d] else none
  |_=>none)
 |_=>none
def rowsT (P:Program) (s:AS) (k:Nat) (t:TypeId) (x:AV):Option (List (List D)):=
 match (ty P t).td with
 | .slice _=>rowsK s k x
 | .str=>(match x with
  | .d (.str l)=>if k=1 then some (zh l) else none
  |_=>none)
 |_=>none
def zgF (s:AS):AV->(Bool->Prop)->Prop
 | .nils _,R=>R true
 | .asl _ _,R=>R false
 | .vsl _ _ _ _,R=>R false
 | .d (.sl _ rows),R=>∀b,(b=true->rows= [])->R b
 | .osl i k n _ len,R=>s.cur i n k/\∀b,(b=true->len=0)->R b
 |_,_=>False
def isX (P:Program):Op->Bool
 | .convert src dst _=>(match (ty P src).td with| .slice _=>true|_=>false)||(match (ty P dst).td with| .slice _=>true|_=>false)
 | .binOp _ t _ _ _=>(match (ty P t).td with| .slice _=>true|_=>false)
 |_=>false
def zrow (P:Program) (e:TypeId):Option (List D):=toDs (zK P 12 e)
def rput (xs:List (List D)) (off:Nat) (rows:List (List D)):List (List D):=xs.take off++rows++xs.drop (off+rows.length)
def zaU (fl : Nat) (P:Program) (s:AS) (op:Op) (K:AV→AHeap→Prop):Prop:=
  match op with
  | .convert src dst x=>(match (ty P src).td,(ty P dst).td with
    | .str,.slice e=>(match s.ev x with
      |(g,.d (.str l))=>g=true∧(ty P e).td= .int .u8∧K (.osl (fresh fl s.h) 1 l.length 0 l.length) ((fresh fl s.h,.arr 1 (zh l))::s.h)
      |_=>False)
    | .slice e,.str=>(match rowsK s 1 (s.ev x).2 with
      |some rows=>(s.ev x).1=true∧(ty P e).td= .int .u8∧rows.all zn9=true∧K (.d (.str (bytesOf rows))) s.h
      |none=>False)
    |_,_=>False)
  | .binOp o t x y _=>(match (ty P t).td with
    | .slice _=>(s.ev x).1=true∧(s.ev y).1=true∧(match (s.ev y).2,o with
      | .nils _,.eql=>zgF s (s.ev x).2 (fun b=>K (.d (.bool b)) s.h)
      | .nils _,.neq=>zgF s (s.ev x).2 (fun b=>K (.d (.bool (!b))) s.h)
      |_,_=>False)
    |_=>False)
  | .makeSlice t l c=>(match (ty P t).td,s.ev l,s.ev c with
    | .slice e,(gl,.d (.int .i64 n)),(gc,.d (.int .i64 m))=>gl=true∧gc=true∧n=m∧0≤n∧n*(ty P e).bytes≤16777216∧n≤16777216∧zR P e=true∧(ty P e).td≠ .other∧(ty P e).size≠0∧
      (match zrow P e with
      |some z=>K (.osl (fresh fl s.h) (ty P e).size n.toNat 0 n.toNat) ((fresh fl s.h,.arr (ty P e).size (List.replicate n.toNat z))::s.h)
      |none=>False)
    |_,_,_=>False)
  | .range t x=>(match (ty P t).td,s.ev x with
    | .str,(g,.d (.str l))=>g=true∧K (.itr (fresh fl s.h)) ((fresh fl s.h,.strit l 0)::s.h)
    |_,_=>False)
  | .next x b=>(match s.ev x with
    | (g,.itr i)=>g=true∧b=true∧(match hget s.h i with
      |some (.strit l p)=>if p<l.length then K (.tup [.d (.bool true),.d (.int .i64 p),.d (.int .i32 (Utf8.decode ⟨l.toArray⟩ p).1)]) (hset s.h i (.strit l (p+(Utf8.decode ⟨l.toArray⟩ p).2))) else K (.tup [.d (.bool false)]) s.h
      |_=>False)
    |_=>False)
  | .makeMap _ r=>(match r with
    |none=>K (.map (fresh fl s.h)) ((fresh fl s.h,.omap [])::s.h)
    |some _=>False)
  | .mapUpdate t m k v=>(match (ty P t).td,s.ev m,s.ev k,s.ev v with
    | .map kt _,(gm,.map i),(gk,.d kd),(gv,.d vd)=>gm=true∧gk=true∧gv=true∧vd.scal=true∧(match s.esOf i with
      |some es=>alike (ty P kt).td kd=true∧(es.all fun p=>alike (ty P kt).td p.1)=true∧K .any (hset s.h i (.omap (mput kd vd es)))
      |none=>False)
    |_,_,_,_=>False)
  | .call c => (match c.callee with
    | .builtin .append=>(match c.args.toList,c.argTypes.toList with
      | [x, y], [t,u]=>(match (ty P t).td with
        | .slice e=>(s.ev x).1=true∧(s.ev y).1=true∧zR P e=true∧(ty P e).td≠ .other∧(ty P e).size≠0∧
          (match rowsT P s (ty P e).size u (s.ev y).2 with
          | some rows=>(match (s.ev x).2 with
            | .nils _=>rows.length*(ty P e).bytes≤140737488355328∧rows.length≤140737488355328∧K (.osl (fresh fl s.h) (ty P e).size rows.length 0 rows.length) ((fresh fl s.h,.arr (ty P e).size rows)::s.h)
            | .osl i k m off len=>(match hget s.h i with
              | some (.arr k' xs)=>k=(ty P e).size∧k'=(ty P e).size∧m=xs.length∧off=0∧(if len=m then (xs.length+rows.length)*(ty P e).bytes≤140737488355328∧xs.length+rows.length≤140737488355328∧
                K (.osl i k (m+rows.length) 0 (m+rows.length)) (hset s.h i (.arr k' (xs++rows))) else len+rows.length≤m∧K (.osl i k m 0 (len+rows.length)) (hset s.h i (.arr k' (rput xs len rows))))
              |_=>False)
            |_=>False)
          |none=>False)
        |_=>False)
      |_,_=>False)
    | .builtin .copy=>(match c.args.toList,c.argTypes.toList with
      | [x, y],[t,u]=>(match (ty P t).td with
        | .slice e=>(s.ev x).1=true∧(s.ev y).1=true∧zR P e=true∧(ty P e).size≠0∧
          (match rowsT P s (ty P e).size u (s.ev y).2 with
          | some rows=>(match (s.ev x).2 with
            | .osl i k m off len=>(match hget s.h i with
              |some (.arr k' xs)=>k=(ty P e).size∧k'=(ty P e).size∧m=xs.length∧off+len≤m∧rows.length≤len∧K (.d (.int .i64 rows.length)) (hset s.h i (.arr k' (rput xs off rows)))
              |_=>False)
            |_=>False)
          |none=>False)
        |_=>False)
      |_,_=>False)
    | .builtin .clear=>(match c.args.toList,c.argTypes.toList with
      | [x], [t]=>(match (ty P t).td with
        | .slice e=>(s.ev x).1=true∧zR P e=true∧(ty P e).td≠ .other∧(ty P e).size≠0∧
          (match zrow P e with
          | some z=>(match (s.ev x).2 with
            | .osl i k m off len=>(match hget s.h i with
              |some (.arr k' xs)=>k=(ty P e).size∧k'=(ty P e).size∧m=xs.length∧off+len≤m∧K (.tup []) (hset s.h i (.arr k' (rput xs off (List.replicate len z))))
              |_=>False)
            |_=>False)
          |none=>False)
        |_=>False)
      |_,_=>False)
    |_=>False)
  |_=>False
section
variable {P : Program} {W : World} {E : Env} {s : AS} {a : Act} {cx : Cx} {K : AV -> AHeap -> Prop}
def Sat.drew {w} (J:Sat cx E s a w):Sat cx E s a w.drew where
 slots:=λk g v hk=>by obtain ⟨x,h1,h2,h3⟩:=J.slots k g v hk;exact ⟨x,h1,λe=>Rep.step (W:=w) (W':=w.drew) fU (λ_ _ _=>rfl) _ _ (λj _=>GoesOn.refl E s.h j) (h2 e),h3⟩
 nt:=J.nt
 hp:=⟨λi o ho=>by
  have:=J.hp.heap i o ho;cases o with
  |var cs=>
   refine' DJ;refine' GJ
  |tvar tt cs=>
   refine' DJ;refine' GJ
  |arr k xs=>
   refine' Dk;refine' D6
   .grind
   .exact .inr ⟨b,d,T,fz,h1,h2,h3,h4,RepRows.step (W:=w) (W':=w.drew) fU (λ_ _ _=>rfl) _ _ _ h5,h6⟩
  |buf tt xs=>
   refine' Dk;refine' D6
   .grind
   .exact .inr ⟨b,d,T,fz,h1,h2,h3,h4,h5,h6⟩
  |strit l p=>exact this
  |omap es=>exact this,J.hp.inj,J.hp.own,J.hp.mlt,J.hp.nlt⟩
 base:=J.base
 marks:=J.marks
 ghost:=cx.stab _ _ _ _ _ w _ (λ_ _ _=>rfl) fU (λb hb=>hb.elim (λh=>(J.hp.own b h).1) J.marks.lt) (aj _) rfl rfl rfl J.ghost
def zlh {w} (J:Sat cx E s a w) {k cap} {xs} {vs} (hr:RepRows w (Xs E s.h) k xs vs.toList) (hl:xs.length<=cap) (hz:vs.size=cap*k) T fz (hf:zbz fz vs.size) w' (hw:w'=w.alloc (.cells vs T fz)):
  Sat cx (E.set (fresh cx.fl s.h) (some w.heap.size) cap) { s with h:=(fresh cx.fl s.h,.arr k xs)::s.h } a w'/\Evo cx.fl E s.h w (E.set (fresh cx.fl s.h) (some w.heap.size) cap) ((fresh cx.fl s.h,.arr k xs)::s.h) w'/\
  Rep w' (E.set (fresh cx.fl s.h) (some w.heap.size) cap) ((fresh cx.fl s.h,.arr k xs)::s.h) (.osl (fresh cx.fl s.h) k xs.length 0 xs.length) (.slice (some ⟨w.heap.size,0,none⟩) xs.length cap):=by
 subst hw;have c:=ziC cx.fl J.hp (.cells vs T fz) (.arr k xs) cap;refine' D5
 .simp [hget] at ho;subst ho;exact .inr ⟨w.heap.size,vs,T,fz,gM,zeb w _,vK,by simpa [Env.set] using hl,c.rows hr,hf⟩
 .refine' Fg;refine' Je
def zfZ {w} {X} :∀ (l:List UInt8) (r:List Value),RepRows w X 1 (zh l) (l.map (λb=>Value.int .u8 b.toNat)++r)
 | [],_=>by simp [zh,RepRows]
 |b::l,r=>by
  refine ⟨rfl,by simp [zgE,RepDs,RepD],?_⟩;have:=zfZ (w:=w) (X:=X) l r;unfold zh at this
  grind
def zlC {w} {X} :∀ (rows:List (List D)) (cs:List Value),RepRows w X 1 rows cs→rows.all zn9=true→∀i,i<rows.length→cs[i]?=some (.int .u8 ((rows.map numOf).getD i 0))
 | [],_,_,_,i,hi=>fU
 | r ::rows,cs,h,hb,i,hi=>by
  obtain ⟨h1,h2,h3⟩:=h
  simp only [bq,aq] at hb
  cases i with
  | zero=>
   unfold zn9 at hb
   split at hb
   ·rename_i n
    obtain ⟨v,r',e,rfl,rfl⟩:=h2
    cases cs with
    |nil=>grind
    |cons c cs=>
     simp at e
     simp [numOf,e]
   ·grind
  |succ i=>
   have:=zlC rows _ h3 hb.2 i fU
   grind
def zj3 rows:strOfNums (rows.map numOf)=⟨(bytesOf rows).toArray⟩:=by unfold strOfNums bytesOf;simp_all
def zsv (hp:SatH E s.h W) {k} {x} {v} {rows} (J:Rep W E s.h x v) (h:rowsK s k x=some rows):
  (rows= []/\∃a cap,v= .slice a 0 cap)\/(∃b off cap c T fz,v= .slice (some ⟨b,off,none⟩) rows.length cap/\W.heap[b]?=some (.cells c T fz)/\RepRows W (Xs E s.h) k rows (c.toList.drop off)):=by
 unfold rowsK at h;split at h
 .cases h;exact .inl ⟨rfl,_,_,J⟩
 .split at h
  .rename_i hk;subst hk;cases h;rcases J with ⟨rfl,a,cap,rfl⟩|⟨a,cap,c,T,fz,rfl,h2,h3,h4,h5,h6⟩
   .grind
   .obtain ⟨ab,ao,p8⟩:=a;subst h2
    grind
  .grind
 .rename_i i k' m off len;split at h
  .rename_i tc xs hi;split at h
   .rename_i hc;obtain ⟨rfl,rfl,rfl,hle⟩:=hc;cases h;refine' Hq;have ho:=hp.heap i _ hi;refine' FE
    .grind
    .rcases ho with ⟨q1,_⟩|⟨b',c,T,fz,q1,q2,q3,q4,q5,_⟩
     .grind
     .rw [g1] at q1;cases q1;refine .inr ⟨b,off*_,_,c,T,fz,by rw [hlen],q2,(RepRows.drop q5 off).take len⟩
    grind
   .grind
  .grind
 .rename_i i k' off len;split at h
  .rename_i cs hi;split at h
   .rename_i hc;obtain ⟨rfl,rfl,hc⟩:=hc;simp only [bF] at h;obtain ⟨ds,hds,rfl⟩:=h;obtain ⟨b,cs',h1,h2,h3,_,_,rfl⟩:=J;have ho:=hp.heap i _ hi;obtain ⟨b',c,T,fz,q1,q2,q3,_⟩:=ho;rw [h2] at q1;cases q1;have hq:=(Reps.drop q3 off).take len;have hd:=hq.toDs hds
    have jl:ds.length=len:=by
     have:=RepDs.length hd;have h9:=Reps.length hq
     grind
    refine .inr ⟨b,off,_,c,T,fz,by rw [al,jl],q2,?_⟩
    have key:∀ (ds:List D) (vs us:List Value),RepDs W (Xs E s.h) ds vs->RepRows W (Xs E s.h) 1 (ds.map λd=> [d]) (vs++us):=by
     intro ds;induction ds with
     |nil=>intro vs us _;simp [RepRows]
     |cons d ds ih=>
      intro vs us h1;obtain ⟨v,r,rfl,h3,h4⟩:=h1;exact ⟨rfl,by simp [RepDs,h3],fU⟩
    have:=key ds _ ((c.toList.drop off).drop len) hd;rwa [bO] at this
   .grind
  .grind
 .grind
def RepDs.oneCells {X} :∀ {ds:List D} {vs:List Value},RepDs W X ds vs->∀u∈vs,u.oneCell'=true
 | [],vs,h,u,hu=>by simp only [RepDs] at h;grind
 |d::ds,vs,h,u,hu=>by
  obtain ⟨v,r,rfl,h1,h2⟩:=h;rcases bg.1 hu with rfl|hu
  .exact RepD.one h1
  .exact RepDs.oneCells h2 u hu
def RepRows.oneCells {X} {k} :∀ {rows:List (List D)} {vs:List Value},RepRows W X k rows vs->vs.length=rows.length*k->∀u∈vs,u.oneCell'=true
 | [],vs,h,J,u,hu=>fU
 | r::rows,vs,h,J,u,hu=>by
  obtain ⟨h1,h2,h3⟩:=h;rw [<-bO k vs] at hu;rcases aS.1 hu with hu|hu
  .exact RepDs.oneCells h2 u hu
  .refine RepRows.oneCells h3 ?_ u hu;simp only [aC,cQ] at J
   grind
def zBz (hp:SatH E s.h W) {k} {u} {x} {v} {rows} (J:Rep W E s.h x v) (h:rowsT P s k u x=some rows):
  ∃news:List Value,news.length=rows.length*k/\RepRows W (Xs E s.h) k rows news/\(∀y∈news,y.oneCell'=true)/\(Builtin.lenOf v).run P W= .ok rows.length W/\
   (∀W':World,W'.heap=W.heap->(Builtin.firstCells k rows.length v).run P W'= .ok news.toArray W')/\(∃d,P.underlying u=some d/\∀kk,d≠ .int kk):=by
 unfold rowsT at h;split at h
 .rename_i e hu;have rW:=zY hu;rcases zsv hp J h with ⟨rfl,a,cap,rfl⟩|⟨b,off,cap,c,T,fz,rfl,hb,nT⟩
  .refine ⟨[],fZ,mV,fZ,by simp [Builtin.lenOf],λW' hW=>?_,_,rW,λkk=>fZ⟩;cases a with
   |none=>simp [Builtin.firstCells]
   |some a=>simp [Builtin.firstCells,loadCells,loadCellsFrom]
  .have hle:=RepRows.length_le nT;have jl:((c.toList.drop off).take (rows.length*k)).length=rows.length*k:=fU;have vW:RepRows W (Xs E s.h) k rows ((c.toList.drop off).take (rows.length*k)):=RepRows.congr nT fU;refine ⟨(c.toList.drop off).take (rows.length*k),jl,vW,RepRows.oneCells vW jl,by simp [Builtin.lenOf],λW' hW=>?_,_,rW,λkk=>fZ⟩;refine run_firstCells_some W' k rows.length ⟨b,off,none⟩ rows.length cap _ jl (λj y hj=>?_);rw [Addr.add_none,zI (by rw [hW];omega)]
   grind
 .rename_i hu;have rW:=zdr hu;split at h
  .rename_i l;split at h
   .rename_i hk;subst hk;cases h;subst J;refine ⟨l.map λb=> .int .u8 b.toNat,nB,?_,?_,?_,λW' hW=>?_,_,rW,λkk=>fZ⟩
    .have:=zfZ (w:=W) (X:=Xs E s.h) l []
     grind
    .intro y hy;obtain ⟨b,_,rfl⟩:=ba.1 hy;rfl
    .simp [Builtin.lenOf,zh,ByteArray.size]
    .have jl:(zh l).length=l.length:=by simp [zh]
     rw [jl];refine' FY;have hex:(⟨l.toArray⟩:ByteArray).extract 0 l.length=⟨l.toArray⟩:=by rw [<-gd];simp
     simp [Builtin.firstCells,hex]
   .grind
  .grind
 .grind
def zgp {t u ty e} {i} {z} (J:P.underlying t=some (.slice e)) {d} (hu:P.underlying u=some d) (hd:∀kk,d≠ .int kk) (hi:P.info? e=some i) (hz:i.zero=some z)
  {w} {base} {sLen sCap n} {x} {olds news:List Value} (hx:(Builtin.lenOf x).run P w= .ok n w)
  (ho:∀W':World,W'.heap=w.heap->(Builtin.firstCells i.size sLen (.slice base sLen sCap)).run P W'= .ok olds.toArray W') (hn:∀W':World,W'.heap=w.heap->(Builtin.firstCells i.size n x).run P W'= .ok news.toArray W')
  (hg:sCap<sLen+n) (qa:((sLen+n:Nat):Int)<=9223372036854775807) (ng:Builtin.nextslicecap (sLen+n) sCap*i.bytes<=281474976710656):
  (Builtin.append_ #[t,u] ty #[.slice base sLen sCap,x]).run P w=
   .ok (.slice (some ⟨w.heap.size,0,none⟩) (sLen+n) (grownCap w (sLen+n) sCap e))
    (w.drew.alloc (.cells (olds.toArray++news.toArray++Builtin.zeroCells z.cells (grownCap w (sLen+n) sCap e - (sLen+n))) e)):=by
 have jr:¬(sLen+n<=sCap):=fT;have yk:¬(9223372036854775807<((sLen:Int)+(n:Int))):=fT;have ym:¬(281474976710656<Builtin.nextslicecap (sLen+n) sCap*i.bytes):=fT;have iO:=ho w.drew rfl;have yn:=hn w.drew rfl;refine' HE;simp [Builtin.append_,run_underlying J,run_underlying hu,sizeOf,typeInfo,zeroValue,hi,hz,hx,jr,yk,ym,Question.forced,iO,yn,newRow,grownCap]
 grind
def zgq {t u ty e} {i} (J:P.underlying t=some (.slice e)) {d} (hu:P.underlying u=some d) (hd:∀kk,d≠ .int kk) (hi:P.info? e=some i)
  {w} {g sLen sCap n} {x} {news} {c} {T} {fz} (hx:(Builtin.lenOf x).run P w= .ok n w)
  (hn:(Builtin.firstCells i.size n x).run P w= .ok news.toArray w) (hb:w.heap[g]?=some (.cells c T fz)) (hf:zbz fz c.size) (h1:∀y∈news,y.oneCell'=true) (hl:sLen*i.size+news.length<=c.size)
  (pv:sLen+n<=sCap):
  (Builtin.append_ #[t,u] ty #[.slice (some ⟨g,0,none⟩) sLen sCap,x]).run P w= .ok (.slice (some ⟨g,0,none⟩) (sLen+n) sCap) (World.row w g (.cells (putA c (sLen*i.size) news) T fz)):=by refine' HE;have gf:=zcY (P:=P) (T:=T) (fz:=fz) (sLen*i.size) news 0 c w hb hf fT h1;simp [Builtin.append_,run_underlying J,run_underlying hu,sizeOf,typeInfo,hi,hx,pv,hn,Addr.add_none,gf]
def zgr {t u ty e} {i} (J:P.underlying t=some (.slice e)) {d} (hu:P.underlying u=some d) (hd:∀kk,d≠ .int kk) (hi:P.info? e=some i)
  {w} {base} {sLen sCap} {x} (hx:(Builtin.lenOf x).run P w= .ok 0 w)
  (hn:(Builtin.firstCells i.size 0 x).run P w= .ok #[] w) (pv:sLen<=sCap):
  (Builtin.append_ #[t,u] ty #[.slice base sLen sCap,x]).run P w= .ok (.slice base sLen sCap) w:=by refine' HE;cases base<;>simp [Builtin.append_,run_underlying J,run_underlying hu,sizeOf,typeInfo,hi,hx,pv,hn,storeCells]
def ziF:∀ {h:AHeap} {i:Nat} {o:AObj},hget h i=some o->hset h i o=h
  | [],i,o,h=>rfl
  | (k,ok)::r,i,o,h=>by
    simp only [hget,hset] at h |-;by_cases e:k=i
    · grind
    · simp only [e,aK] at h |-
      rw [ziF h]
def zlD {t} (J:zR P t=true) {zs} (vb:zrow P t=some zs):∃i z,P.info? t=some i/\i.zero=some z/\i.size=(ty P t).size/\i.bytes=(ty P t).bytes/\z.cells.size=(ty P t).size/\
  ∀ (W:World) (X:Nat->Prop),RepDs W X zs z.cells.toList:=by obtain ⟨i,z,h1,h2,h3,h4,h5,h6⟩:=ziz J;refine ⟨i,z,h1,h2,h6,by simp [ty,Program.bytesOf,h1],fU,λW X=>?_⟩;have hr:Reps W (bare X) [] (zK P 12 t) z.cells.toList:=zj0 h3;have hd:=hr.toDs vb;refine RepDs.step (W:=W) (W':=W) (X:=Xs (bare X) []) (λb _ hx=> .inr (.inr hx)) fU _ _ hd
def zjb {X} {k} {zs} {z:Array Value} (hk:zs.length=k) (hz:z.size=k) (h:RepDs W X zs z.toList):∀ (n m:Nat),n<=m->RepRows W X k (List.replicate n zs) ((Array.range (m*k)).map (z[· % z.size]!)).toList:=by
 have key:∀ (n:Nat),RepRows W X k (List.replicate n zs) ((List.replicate n z.toList).flatten):=by
  intro n;induction n with
  |zero=>simp [RepRows]
  |succ n ih=>
   simp only [dq,RepRows,cU]
   grind
 intro n m nZ;refine RepRows.congr (key n) ?_;rw [bB];have hl:z.toList.length=k:=fU;apply dk;intro j;rw [dM,dM];split
 .rename_i J;have gk:0<k:=fU;have Cc:j<m*k:=aE J (cC _ nZ)
  have gy:∀ (n j:Nat),j<n*k->((List.replicate n z.toList).flatten)[j]?=z.toList[j % k]?:=by
   intro n;induction n with
   |zero=>grind
   | succ n ih=>
    intro j J;rw [cQ] at J;simp only [dq,cU];by_cases h1:j<k
    .rw [List.getElem?_append_left fT,bC h1]
    .rw [dN fT,hl,ih (j - k) fT];rw [<-Nat.mod_eq_sub_mod fT]
  have aZ:j % k<z.size:=by rw [hz];exact Nat.mod_lt _ gk
  grind
 .rfl
def zj4 {α} :∀ (c:List α) (o:Nat) (vs:List α),o+vs.length<=c.length->putL c o vs=c.take o++vs++c.drop (o+vs.length)
 |c,o,[],_=>by simp [putL]
 | c,o,v::vs,h=>by
  simp only [aC] at h;rw [putL,zj4 _ _ _ fU]
  have h1:(c.set o v).take (o+1)=c.take o++ [v]:=by rw [dr,dK fU,fg fT];rfl
  have h2:(c.set o v).drop (o+1+vs.length)=c.drop (o+(vs.length+1)):=by
   rw [eD fT]
   grind
  grind
def zsw {w} (hs:Sat cx E s a w) {k i} {xs rows} (hi:hget s.h i=some (.arr k xs)) {cap} {olds news us} (ho:RepRows w (Xs E s.h) k xs olds) (hol:olds.length=xs.length*k) (hn:RepRows w (Xs E s.h) k rows news) (hnl:news.length=rows.length*k)
    (hr0:rows≠ []) (hc:xs.length+rows.length≤cap) {vs} (hv:vs.toList=olds++news++us) (hz:vs.size=cap*k) T:
    Sat cx (E.set i (some w.heap.size) cap) { s with h:=hset s.h i (.arr k (xs++rows)) } a (w.alloc (.cells vs T))∧Evo cx.fl E s.h w (E.set i (some w.heap.size) cap) (hset s.h i (.arr k (xs++rows))) (w.alloc (.cells vs T))∧
    Rep (w.alloc (.cells vs T)) (E.set i (some w.heap.size) cap) (hset s.h i (.arr k (xs++rows))) (.osl i k (xs.length+rows.length) 0 (xs.length+rows.length)) (.slice (some ⟨w.heap.size,0,none⟩) (xs.length+rows.length) cap):=by
  have hlen0:rows.length≠0:=fU
  have c:Chg E s.h w (E.set i (some w.heap.size) cap) (hset s.h i (.arr k (xs++rows))) (w.alloc (.cells vs T)) i:=
    { os:=rfl,tape:=rfl,output:=rfl,size:=fZ,envO:=fun j e=>gY,envC:=fun j e=>gY,M:=rfl,N:=rfl,hh:=fun j e=>zS e,
      gi:=by
        unfold GoesOn
        rw [hi]
        exact ⟨_,zi hi,fZ,fun e=>absurd (by grind:rows.length=0) hlen0⟩
      blk:=fun b hb _=>by
        show (w.heap.push _)[b]?=_
        grind
      new:=fun b _ hb=>by
        simp only [Env.set,av,aB] at hb
        simp_all }
  refine ⟨c.sat hs (fun o ho'=>?_),c.evo fU,?_⟩
  · rw [zi hi] at ho'
    cases ho'
    refine .inr ⟨w.heap.size,vs,T,(0,0),gM,zeb w _,vK,by simpa [Env.set] using hc,?_,pg⟩
    rw [hv]
    have h1:=RepRows.append (c.rows ho) (c.rows hn) hol
    refine RepRows.congr h1 ?_
    rw [ae,dO (l₁:=olds++news) fU]
  · refine' Fg
    exact ⟨⟨_,_,_,rfl⟩,xs++rows,zi hi,fZ,fT,fun _=> .inr (.inl ⟨w.heap.size,gM,gM⟩)⟩
def zqk {w} (hs:Sat cx E s a w) {k i b} {xs rows} (hi:hget s.h i=some (.arr k xs)) (hb:E.O i=some b) {c} {T} {fz} (hc:w.heap[b]?=some (.cells c T fz)) (hcs:c.size=E.C i*k)
    (hx:RepRows w (Xs E s.h) k xs c.toList) (hf:zbz fz c.size) {news} (hn:RepRows w (Xs E s.h) k rows news) (hnl:news.length=rows.length*k) (hcap:xs.length+rows.length≤E.C i):
    Sat cx E { s with h:=hset s.h i (.arr k (xs++rows)) } a (World.row w b (.cells (putA c (xs.length*k) news) T fz))∧Evo cx.fl E s.h w E (hset s.h i (.arr k (xs++rows))) (World.row w b (.cells (putA c (xs.length*k) news) T fz))∧
    Rep (World.row w b (.cells (putA c (xs.length*k) news) T fz)) E (hset s.h i (.arr k (xs++rows))) (.osl i k (xs.length+rows.length) 0 (xs.length+rows.length)) (.slice (some ⟨b,0,none⟩) (xs.length+rows.length) (E.C i)):=by
  have hblt:=(aI.1 hc).1
  have ch:Chg E s.h w E (hset s.h i (.arr k (xs++rows))) (World.row w b (.cells (putA c (xs.length*k) news) T fz)) i:=
    { os:=rfl,tape:=rfl,output:=rfl,size:=fZ,envO:=fun j e=>rfl,envC:=fun j e=>rfl,M:=rfl,N:=rfl,hh:=fun j e=>zS e,
      gi:=by
        unfold GoesOn
        rw [hi]
        exact ⟨_,zi hi,fZ,fun _=>⟨rfl,rfl⟩⟩
      blk:=fun j hj hn=>zeT fU
      new:=fun j _ hj=> .inl ⟨fU,hj⟩ }
  have hle:xs.length*k+news.length≤c.toList.length:=by
    rw [hnl,← cm]
    simp only [fh,hcs]
    exact cC _ hcap
  refine ⟨ch.sat hs (fun o ho'=>?_),ch.evo fU,?_⟩
  · rw [zi hi] at ho'
    cases ho'
    refine' II
    have hxl:(c.toList.take (xs.length*k)).length=xs.length*k:=fU
    have hx':RepRows w (Xs E s.h) k xs (c.toList.take (xs.length*k)):=RepRows.congr hx fU
    have h1:=RepRows.append (ch.rows hx') (ch.rows hn) hxl
    refine RepRows.congr h1 ?_
    rw [ae,dO (l₁:=c.toList.take (xs.length*k)++news) fU]
  · refine' Fg
    exact ⟨⟨_,_,_,rfl⟩,xs++rows,zi hi,fZ,fT,fun _=> .inr fU⟩
def zmw {t} {e} (J:(ty P t).td= .slice e) p l c w:(Op.equal t (.slice p l c) (.slice none 0 0)).run P w= .ok p.isNone w:=by show (Op.equalIn (9999+1) t _ _).run P w=_;unfold Op.equalIn;cases p<;>simp only [ai,run_underlying (zY J),ah,ar,Option.isNone_none,Option.isNone_some]
def zlE (hp:SatH E s.h W) {x} {v} {R} (J:Rep W E s.h x v) (h:zgF s x R):∃p l c,v= .slice p l c/\R p.isNone:=by
 unfold zgF at h;split at h
 .simp only [Rep] at J;grind
 .simp only [Rep] at J;grind
 .simp only [Rep] at J;grind
 .simp only [Rep,RepD] at J
  grind
 .rename_i i k n off len;obtain ⟨vX,h⟩:=h;unfold AS.cur at vX;split at vX
  .rename_i k' xs hi;simp only [Rep] at J
   grind
  .grind
 .grind
def zql (J:Sat cx E s a W) dst ot pos after guard t l c (h:zaU cx.fl P s (.makeSlice t l c) K):Does P (execOp a.eval ⟨dst,.makeSlice t l c,ot,pos,after,guard⟩) W (ziE cx E s a W K):=by
 unfold zaU at h;dsimp only at h;split at h
 .rename_i e gl n gc m ht hl hc;obtain ⟨rfl,rfl,rfl,h0,kj,hn,hz,b5,gk,h⟩:=h;split at h
  .rename_i zs yo;obtain ⟨i,z,h1,h2,h3,n0,h4,h5⟩:=zlD hz yo;have mJ:=ev_ok J.slots l (by rw [hl]);have jb:=ev_ok J.slots c (by rw [hc]);rw [hl] at mJ;rw [hc] at jb;simp only [Rep,RepD] at mJ jb;have Ce:madeCells z.cells (n.toNat*i.size)=(Array.range (n.toNat*i.size)).map (z.cells[· % z.cells.size]!):=rfl;have iS:=run_make (P:=P) W t e i z (zY ht) h1 h2 .i64 .i64 n n h0 fU fU fT;have iR:zs.length=(ty P e).size:=by have:=RepDs.length (h5 W (Xs E s.h));grind
   have pj:=zjb (k:=(ty P e).size) (z:=z.cells) iR h4 (h5 W (Xs E s.h)) n.toNat n.toNat fU;obtain ⟨q1,q2,q3⟩:=zhM J (k:=(ty P e).size) (cap:=n.toNat) (xs:=List.replicate n.toNat zs) (vs:=madeCells z.cells (n.toNat*i.size)) fU fZ fU e _ rfl;rw [bB] at q3;refine .inl ⟨_,_,?_,_,_,_,h,q1,q2,q3⟩;simp only [execOp,mJ,jb,ai,iS,ah,ar]
  .grind
 .grind
def zmx {w} (hs:Sat cx E s a w) {k i b} {xs rows} (hi:hget s.h i=some (.arr k xs)) (hb:E.O i=some b) {c} {T} {fz} (hc:w.heap[b]?=some (.cells c T fz)) (hcs:c.size=E.C i*k) (hxc:xs.length≤E.C i)
    (hx:RepRows w (Xs E s.h) k xs c.toList) (hf:zbz fz c.size) {news} (hn:RepRows w (Xs E s.h) k rows news) (hnl:news.length=rows.length*k) {off} (hl:off+rows.length≤xs.length):
    Sat cx E { s with h:=hset s.h i (.arr k (rput xs off rows)) } a (World.row w b (.cells (putA c (off*k) news) T fz))∧Evo cx.fl E s.h w E (hset s.h i (.arr k (rput xs off rows))) (World.row w b (.cells (putA c (off*k) news) T fz)):=by
  have hlen:(rput xs off rows).length=xs.length:=by unfold rput;grind
  have hblt:=(aI.1 hc).1
  have ch:Chg E s.h w E (hset s.h i (.arr k (rput xs off rows))) (World.row w b (.cells (putA c (off*k) news) T fz)) i:=
    { os:=rfl,tape:=rfl,output:=rfl,size:=fZ,envO:=fun j e=>rfl,envC:=fun j e=>rfl,M:=rfl,N:=rfl,hh:=fun j e=>zS e,
      gi:=by
        unfold GoesOn
        rw [hi]
        exact ⟨_,zi hi,fU,fun _=>⟨rfl,rfl⟩⟩
      blk:=fun j hj hn=>zeT fU
      new:=fun j _ hj=> .inl ⟨fU,hj⟩ }
  have hle:off*k+news.length≤c.toList.length:=by
    rw [hnl,← cm]
    simp only [fh,hcs]
    exact cC _ fT
  refine ⟨ch.sat hs (fun o ho'=>?_),ch.evo fU⟩
  rw [zi hi] at ho'
  cases ho'
  refine' II
  have h1l:(c.toList.take (off*k)).length=off*k:=fU
  have h1:RepRows w (Xs E s.h) k (xs.take off) (c.toList.take (off*k)):=by
    refine RepRows.congr (hx.take off) ?_
    grind
  have h3:RepRows w (Xs E s.h) k (xs.drop (off+rows.length)) (c.toList.drop (off*k+news.length)):=by
    have:=RepRows.drop hx (off+rows.length)
    grind
  exact RepRows.append (RepRows.append (ch.rows h1) (ch.rows hn) fU) (ch.rows h3) fU
def zBA (hp:SatH E s.h W) {i k m off len} {v} (J:Rep W E s.h (.osl i k m off len) v) {xs} (hi:hget s.h i=some (.arr k xs)) (hm:m=xs.length) (hl:off+len<=m):
  (len=0/\∃p cap,v= .slice p 0 cap)\/(∃b c T fz cap,E.O i=some b/\v= .slice (some ⟨b,off*k,none⟩) len cap/\W.heap[b]?=some (.cells c T fz)/\c.size=E.C i*k/\xs.length<=E.C i/\RepRows W (Xs E s.h) k xs c.toList/\zbz fz c.size):=by
 obtain ⟨_,xs',g1,_,_,g2⟩:=J;have ec:=hp.heap i _ hi
 grind [Rep,hget,RepRows,Xs,zbz,RepObj]
def zmy xs off:rput xs off []=xs:=by simp [rput]
def zqm (hs:Sat cx E s a W) dst ot pos after guard c (hcal:c.callee= .builtin .copy) (h:zaU cx.fl P s (.call c) K):Does P (execOp a.eval ⟨dst,.call c,ot,pos,after,guard⟩) W (ziE cx E s a W K):=by
 unfold zaU at h
 dsimp only at h
 rw [hcal] at h
 dsimp only at h
 split at h
 ·rename_i x y t u hargs htys
  split at h
  ·rename_i e ht
   obtain ⟨hgx,hgy,hz,hk0,h⟩:=h
   split at h
   ·rename_i rows hrows
    split at h
    ·rename_i i k m off len hxe
     split at h
     ·rename_i k' xs hi
      obtain ⟨rfl,rfl,rfl,hol,hrl,hk⟩:=h
      have hx:=ev_ok hs.slots x hgx
      have hy:=ev_ok hs.slots y hgy
      obtain ⟨inf,z,h1,_,_,_,_,h6⟩:=ziz hz
      obtain ⟨news,n1,n2,n3,n4,n5,_⟩:=zBz hs.hp hy hrows
      have hca:c.args= #[x,y]:=fU
      have hct:c.argTypes= #[t,u]:=fU
      rw [hxe] at hx
      have hexec:∀w',(Builtin.copy_ #[t,u] ot #[a.eval x,a.eval y]).run P W= .ok (.int .i64 rows.length) w'→(execOp a.eval ⟨dst,.call c,ot,pos,after,guard⟩).run P W= .ok (.value (.int .i64 rows.length)) w':=by
       intro w' hr
       refine' F3
      have hsz:(sizeOf e).run P W= .ok (ty P e).size W:=by simp [sizeOf,typeInfo,h1,h6]
      have hrun:∀ (p:Option Addr) (cap:Nat),a.eval x= .slice p len cap→(Builtin.copy_ #[t,u] ot #[a.eval x,a.eval y]).run P W=((match p with|some q=>storeCells q news|none=>pure ()) >>= fun _=>pure (goInt rows.length)).run P W:=by
       intro p cap ex
       rw [ex]
       have hmin:Nat.min rows.length len=rows.length:=fU
       cases p<;>simp [Builtin.copy_,run_underlying (zY ht),n4,hmin,hsz,n5 W rfl]
      refine' HW
      ·have hr0:rows= []:=by grind
       subst hr0
       have hn0:news= []:=by simpa using n1
       subst hn0
       have hset:hset s.h i (.arr (ty P e).size (rput xs off []))=s.h:=by rw [zmy];exact ziF hi
       rw [hset] at hk
       refine .inl ⟨_,_,hexec W ?_,E,s.h,_,hk,hs,Evo.refl _ _ _ _,iI⟩
       rw [hrun p cap ex]
       cases p<;>simp [storeCells,goInt]
      ·have hle:off*(ty P e).size+0+news.length≤cc.size:=by
        rw [n1,q3,cJ,← cm]
        exact cC _ fT
       have hst:=zcY (P:=P) (off*(ty P e).size) news 0 cc W q2 q6 hle n3
       obtain ⟨r1,r2⟩:=zmx hs hi g3 q2 q3 q4 q5 q6 n2 n1 (off:=off) fT
       refine .inl ⟨_,_,hexec _ ?_,E,_,_,hk,r1,r2,iI⟩
       rw [hrun _ _ ex]
       simp only [ai,hst,ah,ar,goInt]
       rfl
     ·grind
    ·grind
   ·grind
  ·grind
 ·grind
def zoa (hs:Sat cx E s a W) dst ot pos after guard c (hcal:c.callee= .builtin .clear) (h:zaU cx.fl P s (.call c) K):Does P (execOp a.eval ⟨dst,.call c,ot,pos,after,guard⟩) W (ziE cx E s a W K):=by
 unfold zaU at h
 dsimp only at h
 rw [hcal] at h
 dsimp only at h
 split at h
 ·rename_i x t hargs htys
  split at h
  ·rename_i e ht
   obtain ⟨hgx,hz,hne,hk0,h⟩:=h
   split at h
   ·rename_i zs hzr
    split at h
    ·rename_i i k m off len hxe
     split at h
     ·rename_i k' xs hi
      obtain ⟨rfl,rfl,rfl,hol,hk⟩:=h
      have hx:=ev_ok hs.slots x hgx
      obtain ⟨inf,z,h1,h2,h3,_,h4,h5⟩:=zlD hz hzr
      have hzl:zs.length=(ty P e).size:=by
       have:=RepDs.length (h5 W (Xs E s.h))
       grind
      have hca:c.args= #[x]:=fU
      have hct:c.argTypes= #[t]:=fU
      rw [hxe] at hx
      have hexec:∀w',(Builtin.clear_ #[t] ot #[a.eval x]).run P W= .ok (.tuple #[]) w'→(execOp a.eval ⟨dst,.call c,ot,pos,after,guard⟩).run P W= .ok (.value (.tuple #[])) w':=by
       intro w' hr
       refine' F3
      have hzv:(zeroValue e).run P W= .ok z W:=by simp [zeroValue,typeInfo,h1,h2]
      refine' HW
      ·refine' Et
       cases p<;>simp [Builtin.clear_,run_underlying (zY ht)]
      ·cases len with
       |zero=>
        refine' Et
        simp [Builtin.clear_,run_underlying (zY ht)]
       | succ n=>
        obtain ⟨news,hnews⟩:∃news,news=(Builtin.zeroCells z.cells (n+1)).toList:=⟨_,rfl⟩
        have n1:news.length=(List.replicate (n+1) zs).length*(ty P e).size:=by rw [hnews,bB];simp [dP,h4]
        have n2:RepRows W (Xs E s.h) (ty P e).size (List.replicate (n+1) zs) news:=by
         rw [hnews]
         have:=zjb (X:=Xs E s.h) (k:=(ty P e).size) hzl fU (h5 W (Xs E s.h)) (n+1) (n+1) fU
         unfold Builtin.zeroCells
         grind
        have n3:∀y∈news,y.oneCell'=true:=RepRows.oneCells n2 n1
        have hle:off*(ty P e).size+0+news.length≤cc.size:=by
         rw [n1,q3,cJ,← cm,bB]
         exact cC _ fT
        have hst:=zcY (P:=P) (off*(ty P e).size) news 0 cc W q2 q6 hle n3
        obtain ⟨r1,r2⟩:=zmx hs hi g3 q2 q3 q4 q5 q6 n2 n1 (off:=off) fU
        refine .inl ⟨_,_,hexec _ ?_,E,_,_,hk,r1,r2,oM⟩
        simp only [Builtin.clear_,List.getElem?_toArray,eC,ai,run_underlying (zY ht),ah]
        simp_all
     ·grind
    ·grind
   ·grind
  ·grind
 ·grind
def zqn (hs : Sat cx E s a W) dst ot pos after guard c (h:zaU cx.fl P s (.call c) K):Does P (execOp a.eval ⟨dst,.call c,ot,pos,after,guard⟩) W (ziE cx E s a W K):=by
  have hdrew:Evo cx.fl E s.h W E s.h W.drew:=⟨rfl,rfl,rfl,aj _,fun _ _ _ _=>rfl,fun _ h=> .inl h,fun _ h=>h,fun _ h=> .inl h,rfl,fun i _ h=>⟨h,GoesOn.refl E _ i⟩⟩
  unfold zaU at h
  dsimp only at h
  split at h
  · rename_i hcal
    split at h
    · rename_i x y t u hargs htys
      split at h
      · rename_i e ht
        obtain ⟨hgx,hgy,hz,hne,hk0,h⟩:=h
        obtain ⟨i,z,h1,h2,h3,h3b,h4,h5⟩:∃i z,P.info? e=some i∧i.zero=some z∧i.size=(ty P e).size∧i.bytes=(ty P e).bytes∧z.cells.size=(ty P e).size∧True:=by
          obtain ⟨i,z,g1,g2,g3,g4,g5,g6⟩:=ziz hz
          exact ⟨i,z,g1,g2,g6,by simp [ty,Program.bytesOf,g1],fU,trivial⟩
        have hx:=ev_ok hs.slots x hgx
        have hy:=ev_ok hs.slots y hgy
        split at h
        · rename_i rows hrows
          obtain ⟨news,n1,n2,n3,n4,n5,d,hd1,hd2⟩:=zBz hs.hp hy hrows
          have hca:c.args= #[x,y]:=fU
          have hct:c.argTypes= #[t,u]:=fU
          have hexec:∀v w',(Builtin.append_ #[t,u] ot #[a.eval x,a.eval y]).run P W= .ok v w'→(execOp a.eval ⟨dst,.call c,ot,pos,after,guard⟩).run P W= .ok (.value v) w':=by
            intro v w' hr
            refine' F3
          have fits:∀need old:Nat,old<need→need*(ty P e).bytes≤140737488355328→Builtin.nextslicecap need old*i.bytes≤281474976710656:=fun need old hlt hb=>growslice_fits hlt fU
          have hfresh:∀ (base:Option Addr) (sCap:Nat),a.eval x= .slice base 0 sCap→sCap=0→rows.length*(ty P e).bytes≤140737488355328→rows.length≤140737488355328→rows≠ []→
              (∃w',(Builtin.append_ #[t,u] ot #[a.eval x,a.eval y]).run P W= .ok (.slice (some ⟨W.heap.size,0,none⟩) rows.length (grownCap W rows.length 0 e)) w'∧
                w'=W.drew.alloc (.cells (news.toArray++Builtin.zeroCells z.cells (grownCap W rows.length 0 e - rows.length)) e)):=by
            intro base sCap e1 e2 hb1 hb2 hne0
            have hpos:0<rows.length:=fU
            have:=zgp (P:=P) (ty:=ot) (u:=u) (zY ht) hd1 hd2 h1 h2 (w:=W) (base:=base) (sLen:=0) (sCap:=0) (n:=rows.length) (x:=a.eval y) (olds:= []) (news:=news) n4
              (fun W' hW=>by cases base<;>simp [Builtin.firstCells,loadCells,loadCellsFrom]) fU fT fT fU
            grind
          split at h
          · rename_i k hxe
            obtain ⟨hb1,hb2,hk⟩:=h
            rw [hxe] at hx
            by_cases hne0:rows= []
            · -- nothing behind nothing: the nil slice, aZ an array that has no block
              subst hne0
              have hr:=zgr (P:=P) (ty:=ot) (zY ht) hd1 hd2 h1 (w:=W) (base:=none) (sLen:=0) (sCap:=0) (x:=a.eval y) fU (by
                simp_all) fU
              rw [← hx] at hr
              have cc:Chg E s.h W (E.set (fresh cx.fl s.h) none 0) ((fresh cx.fl s.h,.arr (ty P e).size [])::s.h) W (fresh cx.fl s.h):=
                { os:=rfl,tape:=rfl,output:=rfl,size:=aj _,envO:=fun j e=>gY,envC:=fun j e=>gY,M:=rfl,N:=rfl,hh:=fun j e=>kT,
                  gi:=mK
                  blk:=fun b hb _=>rfl
                  new:=fun b _ hb=>by simp [Env.set] at hb }
              refine .inl ⟨_,_,hexec _ _ hr,_,_,_,hk,cc.sat hs (fun o ho=>?_),cc.evo (.inr (zbg _ _)),?_⟩
              · refine' DD
                exact .inl ⟨gM,fU⟩
              · refine' Fg
                exact ⟨⟨_,_,_,hx⟩,[],iJ,fZ,fZ,fun _=> .inl ⟨⟨gM,rfl⟩,hx⟩⟩
            · obtain ⟨w',hr,hw'⟩:=hfresh none 0 hx rfl hb1 hb2 hne0
              have hcap:=dQ W rows.length 0 e
              obtain ⟨q1,q2,q3⟩:=zhM hs.drew (k:=(ty P e).size) (cap:=grownCap W rows.length 0 e) (xs:=rows) (vs:=news.toArray++Builtin.zeroCells z.cells (grownCap W rows.length 0 e - rows.length)) (by
                have:=RepRows.append (xs:=rows) (ys:= []) (vs:=news) (ws:=(Builtin.zeroCells z.cells (grownCap W rows.length 0 e - rows.length)).toList) (k:=(ty P e).size) (RepRows.step (W:=W) (W':=W.drew) (fun _ _ hx=>hx) (fun _ _ _=>rfl) _ _ _ n2) mV n1
                grind) hcap (by
                simp only [eE,dR,n1,dP,h4,← cm]
                grind) e _ hw'
              refine' HK
          · rename_i i' k m off len hxe
            split at h
            · rename_i k' xs hi
              obtain ⟨rfl,rfl,rfl,rfl,h⟩:=h
              rw [hxe] at hx
              by_cases hlm:len=xs.length
              case neg=>
                rw [U hlm] at h
                obtain ⟨hrl,hk⟩:=h
                refine' Jm
                rcases g2 rfl with ⟨⟨_,g30⟩,_⟩|⟨b,g3,hxv⟩|⟨g3,_⟩
                · omega
                · rcases hob with ⟨q1,_⟩|⟨b',cc,T,fz,q1,q2,q3,q4,q5,q6⟩
                  · grind
                  · rw [g3] at q1;cases q1
                    simp only [dj,Nat.sub_zero] at hxv
                    have hfit:len*i.size+news.length≤cc.size:=by
                      rw [h3,n1,← cm,q3]
                      exact cC _ fT
                    have hr:=zgq (P:=P) (ty:=ot) (zY ht) hd1 hd2 h1 (w:=W) (g:=b) (sLen:=len) (sCap:=E.C i') (x:=a.eval y) (news:=news) n4 fU q2 q6 n3 hfit fT
                    rw [← hxv,h3] at hr
                    obtain ⟨r1,r2⟩:=zmx hs hi g3 q2 q3 q4 q5 q6 n2 n1 hrl
                    refine .inl ⟨_,_,hexec _ _ hr,E,_,_,hk,r1,r2,?_⟩
                    exact ⟨⟨_,_,_,rfl⟩,rput xs len rows,zi hi,by unfold rput;simp;omega,fT,fun _=> .inr (.inl ⟨b,g3,fZ⟩)⟩
                · grind
              subst hlm
              rw [aa rfl] at h
              obtain ⟨hb1,hb2,hk⟩:=h
              refine' Jm
              rcases g2 rfl with ⟨⟨g3,g30⟩,hxv⟩|⟨b,g3,hxv⟩|⟨g3,_⟩
              · -- no block yet
                obtain rfl:xs= []:=du.1 g30
                · simp only [aM,bL,bh] at hb1 hb2 hk
                  by_cases hne0:rows= []
                  · subst hne0
                    have hr:=zgr (P:=P) (ty:=ot) (zY ht) hd1 hd2 h1 (w:=W) (base:=none) (sLen:=0) (sCap:=0) (x:=a.eval y) (by simpa using n4) (by
                      have:=n5 W rfl
                      have e0:news= []:=by simpa using n1
                      subst e0
                      rw [h3];simpa using this) (aj _)
                    rw [← hxv] at hr
                    have hset:hset s.h i' (.arr (ty P e).size [])=s.h:=ziF hi
                    rw [hset] at hk
                    refine .inl ⟨_,_,hexec _ _ hr,E,s.h,_,hk,hs,Evo.refl _ _ _ _,?_⟩
                    refine' Fg
                    grind
                  · obtain ⟨w',hr,hw'⟩:=hfresh none 0 hxv rfl hb1 hb2 hne0
                    have hcap:=dQ W rows.length 0 e
                    subst hw'
                    obtain ⟨q1,q2,q3⟩:=zsw (cap:=grownCap W rows.length 0 e) hs.drew hi (olds:= []) (news:=news) (us:=(Builtin.zeroCells z.cells (grownCap W rows.length 0 e - rows.length)).toList) (rows:=rows) mV fZ
                      (RepRows.step (W:=W) (W':=W.drew) (fun _ _ hx=>hx) (fun _ _ _=>rfl) _ _ _ n2) n1 hne0 (by simpa using hcap) (vs:=news.toArray++Builtin.zeroCells z.cells (grownCap W rows.length 0 e - rows.length)) fZ (by
                        simp only [eE,dR,n1,dP,h4,← cm]
                        congr 1;omega) e
                    simp only [aM,bL,bh] at q1 q2 q3
                    refine' HK
              · rcases hob with ⟨q1,_⟩|⟨b',cc,T,fz,q1,q2,q3,q4,q5,q6⟩
                · grind
                · rw [g3] at q1;cases q1
                  simp only [dj,Nat.sub_zero] at hxv
                  have hcc:xs.length*(ty P e).size≤cc.toList.length:=RepRows.length_le q5
                  by_cases hroom:xs.length+rows.length≤E.C i'
                  · have hfit:xs.length*i.size+news.length≤cc.size:=by
                      rw [h3,n1,← cm,q3]
                      exact cC _ hroom
                    have hr:=zgq (P:=P) (ty:=ot) (zY ht) hd1 hd2 h1 (w:=W) (g:=b) (sLen:=xs.length) (sCap:=E.C i') (x:=a.eval y) (news:=news) n4 (by rw [h3];exact n5 W rfl) q2 q6 n3 hfit hroom
                    rw [← hxv,h3] at hr
                    obtain ⟨r1,r2,r3⟩:=zqk hs hi g3 q2 q3 q5 q6 n2 n1 hroom
                    exact .inl ⟨_,_,hexec _ _ hr,_,_,_,hk,r1,r2,r3⟩
                  · have hne0:rows≠ []:=by rintro rfl;simp at hroom;omega
                    have holds:((cc.toList).take (xs.length*(ty P e).size)).length=xs.length*(ty P e).size:=hU
                    have hr:=zgp (P:=P) (ty:=ot) (u:=u) (zY ht) hd1 hd2 h1 h2 (w:=W) (base:=some ⟨b,0,none⟩) (sLen:=xs.length) (sCap:=E.C i') (n:=rows.length) (x:=a.eval y) (olds:=(cc.toList).take (xs.length*(ty P e).size)) (news:=news) n4
                      (fun W' hW=>run_firstCells_some W' i.size xs.length ⟨b,0,none⟩ xs.length (E.C i') _ (by rw [holds,h3]) (fun j y hj=>by
                        rw [Addr.add_none,zI (by rw [hW];exact q2)]
                        rw [dM] at hj
                        split at hj
                        · grind
                        · cases hj)) (fun W' hW=>by rw [h3];exact n5 W' hW) fT fT (fits _ _ fT hb1)
                    rw [← hxv] at hr
                    have hcap:=dQ W (xs.length+rows.length) (E.C i') e
                    obtain ⟨r1,r2,r3⟩:=zsw (cap:=grownCap W (xs.length+rows.length) (E.C i') e) hs.drew hi (olds:=(cc.toList).take (xs.length*(ty P e).size)) (news:=news) (us:=(Builtin.zeroCells z.cells (grownCap W (xs.length+rows.length) (E.C i') e - (xs.length+rows.length))).toList) (rows:=rows)
                      (RepRows.step (W:=W) (W':=W.drew) (fun _ _ hx=>hx) (fun _ _ _=>rfl) _ _ _ (RepRows.congr q5 (by rw [List.take_take,Nat.min_self]))) holds
                      (RepRows.step (W:=W) (W':=W.drew) (fun _ _ hx=>hx) (fun _ _ _=>rfl) _ _ _ n2) n1 hne0 hcap (vs:=((cc.toList).take (xs.length*(ty P e).size)).toArray++news.toArray++Builtin.zeroCells z.cells (grownCap W (xs.length+rows.length) (E.C i') e - (xs.length+rows.length))) fZ (by
                        simp only [eE,dR,n1,holds,dP,h4,← cm]
                        congr 1;omega) e
                    exact .inl ⟨_,_,hexec _ _ hr,_,_,_,hk,r1,Evo.trans (E':=E) (h':=s.h) (w':=W.drew) hdrew r2,r3⟩
              · grind
            · grind
          · grind
        · grind
      · grind
    · grind
  · rename_i hcal
    exact zqm hs dst ot pos after guard c hcal AE
  · rename_i hcal
    exact zoa hs dst ot pos after guard c hcal AE
  · grind
def zv5 (J:Sat cx E s a W) o (h:zaU cx.fl P s o.op K):Does P (execOp a.eval o) W (ziE cx E s a W K):=by
 have yp:Evo cx.fl E s.h W E s.h W.drew:=⟨rfl,rfl,rfl,aj _,λ_ _ _ _=>rfl,λ_ h=> .inl h,λ_ h=>h,λ_ h=> .inl h,rfl,λi _ h=>⟨h,GoesOn.refl E _ i⟩⟩
 refine' Eo;dsimp only at h;unfold zaU at h;split at h
 .rename_i src dt x;split at h
  .rename_i e rY kL;split at h
   .rename_i g l hx;obtain ⟨rfl,he,hk⟩:=h;have hv:=ev_ok J.slots x (by rw [hx]);rw [hx] at hv;simp only [Rep,RepD] at hv;have iS:=run_bytes_of_string (P:=P) W src dt e ⟨l.toArray⟩ (zdr rY) (zY kL) (zhL he);refine' FY;have lP:=dQ W l.length 0 e
    obtain ⟨q1,q2,q3⟩:=zlh (k:=1) (cap:=grownCap W l.length 0 e) (xs:=zh l) (vs:=bytesRow ⟨l.toArray⟩ (grownCap W l.length 0 e)) J.drew (by unfold bytesRow;simp only [cS,eF];exact zfZ l _) (by simpa [zh] using lP) (by simp [bytesRow,gd];omega) e ((bytesRow ⟨l.toArray⟩ (grownCap W l.length 0 e)).size,(bytesRow ⟨l.toArray⟩ (grownCap W l.length 0 e)).size+1) (by intro o ho h;grind) _ rfl
    have jl:(zh l).length=l.length:=nB;rw [jl] at q3;refine .inl ⟨_,_,?_,_,_,_,hk,q1,Evo.trans (E':=E) (h':=s.h) (w':=W.drew) yp q2,q3⟩;simp only [execOp,hv,ai,iS,ah,ar];rfl
   .grind
  .rename_i e rY kL;split at h
   .rename_i rows pj;obtain ⟨hg,he,hb,hk⟩:=h;have hv:=ev_ok J.slots x hg
    have iS:(convert src dt (a.eval x)).run P W= .ok (.string ⟨(bytesOf rows).toArray⟩) W:=by
     rcases zsv J.hp hv pj with ⟨rfl,a',cap,e1⟩|⟨b,off,cap,c,T,fz,e1,hc,hr⟩
     .rw [e1,run_convert_bytes_string W src dt e _ 0 cap (zY rY) (zhL he) (zdr kL)];cases a' with
      |none=>simp [Conv.bytesToString,bytesOf,ByteArray.empty,ByteArray.emptyWithCapacity];rfl
      |some a'=>
       have:=run_bytesToString (P:=P) W a' 0 cap [] (by simp [loadCells,loadCellsFrom]);simp [bytesOf];rfl
     .rw [e1]
      have:=run_convert_bytes_arg (P:=P) W src e (zY rY) (zhL he) b off rows.length cap (rows.map numOf) fZ (λi hi=>by
       rw [zI hc];have:=zlC rows _ hr hb i hi
       grind) dt (zdr kL)
      rw [this,zj3]
    refine .inl ⟨.string ⟨(bytesOf rows).toArray⟩,W,?_,E,s.h,_,hk,J,Evo.refl _ _ _ _,iI⟩;simp only [execOp,ai,iS,ah,ar]
   .grind
  .grind
 .rename_i bo t x y yt;split at h
  .rename_i e ht;obtain ⟨yr,cl,h⟩:=h;have hx:=ev_ok J.slots x yr;have hy:=ev_ok J.slots y cl
   have Cf:∀ (bo:BinOp) (v:Value),(do eqGuard bo t x y (a.eval x) (a.eval y);binOp bo t (a.eval x) (a.eval y):Sem Value).run P W= .ok v W->(execOp a.eval ⟨dst,.binOp bo t x y yt,ot,pos,after,guard⟩).run P W= .ok (.value v) W:=by intro bo v hr;simp only [execOp,ai] at hr |-;rw [hr];rfl
   have Cg:∀p l c,(do eqGuard .eql t x y (.slice p l c) (.slice none 0 0);binOp .eql t (.slice p l c) (.slice none 0 0):Sem Value).run P W=(do pure (.bool (<-Op.equal t (.slice p l c) (.slice none 0 0))):Sem Value).run P W:=λ_ _ _=>rfl;have Ci:∀p l c,(do eqGuard .neq t x y (.slice p l c) (.slice none 0 0);binOp .neq t (.slice p l c) (.slice none 0 0):Sem Value).run P W=(do pure (.bool (!(<-Op.equal t (.slice p l c) (.slice none 0 0)))):Sem Value).run P W:=λ_ _ _=>rfl
   have iS:∀p l c,(Op.equal t (.slice p l c) (.slice none 0 0)).run P W= .ok p.isNone W:=by intro p l c;exact zmw ht p l c W
   split at h
   .refine' I1;refine .inl ⟨.bool p.isNone,W,?_,E,s.h,_,hk,J,Evo.refl _ _ _ _,iI⟩;simp_all
   .refine' I1;refine .inl ⟨.bool (!p.isNone),W,?_,E,s.h,_,hk,J,Evo.refl _ _ _ _,iI⟩;simp_all
   .grind
  .grind
 .exact zql J dst ot pos after guard _ _ _ (by unfold zaU;exact h)
 .split at h
  .rename_i t x _ _ g l ht hx;obtain ⟨rfl,h⟩:=h;have ex:=ev_ok J.slots x (by rw [hx]);rw [hx] at ex;simp only [Rep,RepD] at ex;obtain ⟨q1,q2,q3⟩:=ztT J l;refine .inl ⟨_,_,?_,_,_,_,h,q1,q2,q3⟩;simp only [execOp,ex,ai,Instr.range,run_underlying (zdr ht),ah,ar];rfl
  .grind
 .split at h
  .rename_i x b _ g i hx;obtain ⟨rfl,rfl,h⟩:=h;split at h
   .rename_i l p hi;have ex:=ev_ok J.slots x (by rw [hx]);rw [hx] at ex;obtain ⟨b,l',p',g1,g2,g3⟩:=ex;have ho:=J.hp.heap i _ hi;obtain ⟨b',p1,p2⟩:=ho;rw [g2] at p1;cases p1;have c6:=(aI.1 p2).1;refine' FY;have kn:(getObj b).run P W= .ok (.stringIter ⟨l.toArray⟩ p) W:=by simp [getObj,Sem.run,p2]
    split at h
    .rename_i hp;obtain ⟨q1,q2⟩:=zDH (p':=p+(Utf8.decode ⟨l.toArray⟩ p).2) J hi g2 c6;have lG:∀o,(setObj b o).run P W= .ok () (World.row W b o):=λo=>by simp [setObj,Sem.run,p2,World.row]
     refine .inl ⟨.tuple #[.bool true,.int .i64 p,.int .i32 (Utf8.decode ⟨l.toArray⟩ p).1],_,?_,E,_,_,h,q1,q2,by simp [Rep,Reps,RepD]⟩;simp only [execOp,g3,ai,Instr.next,kn,ah,gd,hp,av,lG,ar,goInt]
    .rename_i hp;refine .inl ⟨.tuple #[.bool false],_,?_,E,_,_,h,J,Evo.refl _ _ _ _,by simp [Rep,Reps,RepD]⟩;simp only [execOp,g3,ai,Instr.next,kn,ah,gd,hp,aK,ar]
   .grind
  .grind
 .split at h
  .obtain ⟨q1,q2,q3⟩:=zqj J;refine .inl ⟨_,_,?_,_,_,_,h,q1,q2,q3⟩;simp [execOp,Instr.makeMap,newObj,Sem.run]
  .grind
 .split at h
  .rename_i t m k v _ _ _ _ kt et gm i gk kd gv vd ht hm hk hv;obtain ⟨rfl,rfl,rfl,lO,h⟩:=h;split at h
   .rename_i es p7;obtain ⟨h1,h2,h⟩:=h;have em:=ev_ok J.slots m kP;have ek:=ev_ok J.slots k (by rw [hk]);have rZ:=ev_ok J.slots v (by rw [hv]);rw [hm] at em;rw [hk] at ek;rw [hv] at rZ;simp only [Rep] at em ek rZ;obtain ⟨b,es',g1,g2,g3⟩:=em
    have sF:es'=es:=by
     unfold AS.esOf at p7
     grind
    subst sF;have ho:=J.hp.heap i _ g1;obtain ⟨b',mes,clock,p1,p2,p3⟩:=ho;rw [g2] at p1;cases p1;rw [zea (zg7 h1)] at ek;rw [zea lO] at rZ;obtain ⟨c',iS⟩:=zlg (P:=P) (v:=vd) ht p2 p3 h1 h2;obtain ⟨q1,q2⟩:=zCc (c':=c') J g1 g2 p2 (zzh p3 (zg7 h1) lO clock);refine .inr ⟨_,?_,E,_,.any,h,q1,q2,by simp [Rep]⟩;simp only [execOp,g3,ek,rZ,ai,iS,ah,ar]
   .grind
  .grind
 .exact zqn J dst ot pos after guard _ (by unfold zaU;exact h)
 .grind
end
open Go
def aeff (fl:Nat) (P:Program) (s:AS) (op:Op) (K:AV→AHeap→Prop):Prop:=
 match op with
 | .alloc t=>zR P t=true∧K (.pt (zX P 12 t) (fresh fl s.h) 0) ((fresh fl s.h,.vr (zX P 12 t) t (zK P 12 t))::s.h)
 | .box t x=>(s.ev x).1=true∧((s.ev x).2.tag P t).cellsOk=true∧K (.pt (zX P 12 t) (fresh fl s.h) 0) ((fresh fl s.h,.vr (zX P 12 t) t ((s.ev x).2.tag P t).cells)::s.h)
 | .build t parts=>
  zR P t=true∧(parts.toList.all fun p=>(s.ev p.2).1)=true∧
  (match (ty P t).td with
  | .struct fs=>
   (fs.all fun f=>(ty P f.2).td≠ .other)=true∧
   let q:=fillL (fun i=>(fs[i]?).map fun f=>(f.1,(ty P f.2).size)) (zK P 12 t) (parts.toList.map fun p=>(p.1,((s.ev p.2).2.tag P ((fs.getD p.1 (0,0)).2))))
   q.1∧K (.agg q.2) s.h
  | .arr _ e=>
   (ty P e).td≠ .other∧
   let q:=fillL (fun i=>some (i*(ty P e).size,(ty P e).size)) (zK P 12 t) (parts.toList.map fun p=>(p.1,((s.ev p.2).2.tag P e)))
   q.1∧K (.agg q.2) s.h
  |_=>False)
 | .buildSlice t len parts=>
  (match (ty P t).td with
  | .slice e=>
   zR P e=true∧(parts.toList.all fun p=>(s.ev p.2).1)=true∧(ty P e).td≠ .other∧(ty P e).size≠0∧len*(ty P e).size≤16777216∧
   let q:=fillL (fun i=>some (i*(ty P e).size,(ty P e).size)) ((List.replicate len (zK P 12 e)).flatten) (parts.toList.map fun p=>(p.1,((s.ev p.2).2.tag P e)))
   let rows:=(List.range len).map fun i=>(q.2.drop (i*(ty P e).size)).take (ty P e).size
   q.1∧(match zlz rows with
    |some ds=>K (.osl (fresh fl s.h) (ty P e).size len 0 len) ((fresh fl s.h,.arr (ty P e).size ds)::s.h)
    |none=>0<len∧K (.asl (ty P e).size rows) s.h)
  |_=>False)
 | .store t x y=>
  (s.ev x).1=true∧(s.ev y).1=true∧(ty P t).td≠ .other∧
  let v:=(s.ev y).2.tag P t
  v.cellsOk=true∧v.cells.length=(ty P t).size∧
  (match (s.ev x).2 with
  | .vp i o=>(match hget s.h i with
   |some (.var cs)=>o+(ty P t).size≤cs.length∧K .any (hset s.h i (.var (putL cs o v.cells)))
   |_=>False)
  | .tp i o=>(match hget s.h i with
   |some (.tvar tt cs)=>o+(ty P t).size≤cs.length∧K .any (hset s.h i (.tvar tt (putL cs o v.cells)))
   |_=>False)
  | .ap i n k r o=>(match hget s.h i with
   |some (.arr k' xs)=>k'=k∧xs.length=n∧r<n∧o+(ty P t).size≤k∧
    (match toDs v.cells with
    |some ds=>K .any (hset s.h i (.arr k' (xs.set r (putL (xs.getD r []) o ds))))
    |none=>False)
   |_=>False)
  |_=>False)
 |op=>zaU fl P s op K
section
variable {P : Program} {W : World} {E : Env} {s : AS} {a : Act} {cx : Cx} {K : AV -> AHeap -> Prop}
def ziG {t} (J:zR P t=true):∃z,(∀w,(zeroValue t).run P w= .ok z w)/\Reps W E s.h (zK P 12 t) z.cells.toList/\z.cells.size=(ty P t).size:=by obtain ⟨i,z,h1,h2,h3,h4,h5,h6⟩:=ziz J;exact ⟨z,λw=>zfX h1 h2 w,zj0 h3,fU⟩
def zob {k} :∀ {rows:List (List AV)} {ds:List (List D)} {vs:List Value},RepARows W E s.h k rows vs->zlz rows=some ds->RepRows W (Xs E s.h) k ds vs/\ds.length=rows.length
 | [],ds,vs,_,J=>by simp only [zlz,aB] at J;subst J;simp [RepRows]
 | r::rows,ds,vs,hr,J=>by
  simp only [zlz] at J;split at J
  .rename_i x xs h1 h2;cases J;simp only [RepARows] at hr;obtain ⟨h3,h4,h5⟩:=hr;obtain ⟨h6,h7⟩:=zob h5 h2;have h8:=Reps.toDs h4 h1;simp only [RepRows];refine ⟨⟨?_,h8,h6⟩,fU⟩;rw [<-RepDs.length h8,Reps.length h4,h3]
  .cases J
def zcQ {α:Type} {l:List α} {k} (J:l.length=k):∀ (n i:Nat),i<n*k->((List.replicate n l).flatten)[i]?=l[i % k]?
 |0,i,hi=>fU
 | n+1,i,hi=>by
  rw [cQ] at hi;simp only [dq,cU];by_cases h1:i<k
  .rw [List.getElem?_append_left fT,bC h1]
  .rw [dN fT,J,zcQ J n (i - k) fT];rw [<-Nat.mod_eq_sub_mod fT]
def zv6 {t} {z:Value} {k n} (h2:Reps W E s.h (zK P 12 t) z.cells.toList) (h3:z.cells.size=k):
  Reps W E s.h ((List.replicate n (zK P 12 t)).flatten) ((Array.range (n*k)).map (z.cells[· % z.cells.size]!)).toList:=by
 have hl:=Reps.length h2;have J:(zK P 12 t).length=k:=fU;refine Reps.of_get (by simp [J]) (λj hj=>?_);have yv:j<n*k:=ig
 have hk:0<k:=by
  grind
 have an:j % k<k:=Nat.mod_lt _ hk;obtain ⟨v,hv,hr⟩:=Reps.get h2 (getD_some (d:=AV.any) (show j % k<(zK P 12 t).length by omega));refine ⟨v,?_,?_⟩
 .grind
 .rw [aN,zcQ J n j yv,<-aN];omega
def zv7 {k} (hk:k≠0):∀ (n o:Nat) {cs:List AV} {vs:List Value},Reps W E s.h cs vs->cs.length=(o+n)*k->
  RepARows W E s.h k ((List.range' o n).map λi=>(cs.drop (i*k)).take k) (vs.drop (o*k))
 |0,o,cs,vs,_,_=>by simp [RepARows]
 |n+1,o,cs,vs,J,hl=>by simp only [List.range'_succ,au,RepARows];have hlen:cs.length=o*k+n*k+k:=fU;refine ⟨fU,(J.drop _).take _,?_⟩;rw [bc,show o*k+k=(o+1)*k by grind];exact zv7 hk n (o+1) J fU
def zmz (hs:Slots W E s a) (vY:Nat->TypeId) {parts:Array (Nat×Operand)} (hg:(parts.toList.all λp=>(s.ev p.2).1)=true):
  (parts.toList.map λp=>(p.1,(s.ev p.2).2.tag P (vY p.1))).length=((parts.map λ(i,x)=>(i,a.eval x)).toList).length/\
  ∀ (j i:Nat) (x:AV),(parts.toList.map λp=>(p.1,(s.ev p.2).2.tag P (vY p.1)))[j]?=some (i,x)->∃v,((parts.map λ(i,x)=>(i,a.eval x)).toList)[j]?=some (i,v)/\Rep W E s.h x v:=by refine ⟨fZ,λj i x J=>?_⟩;simp only [cT,bF,aJ] at J;obtain ⟨p,hp,rfl,rfl⟩:=J;have hm:p∈parts.toList:=fU;have:=bw.1 hg p hm;exact ⟨a.eval p.2,fU,Rep.tag (ev_ok hs p.2 this)⟩
def zCd (hs:Sat cx E s a W) o (h:aeff cx.fl P s o.op K):Does P (execOp a.eval o) W (ziE cx E s a W K):=by
 refine' Eo
 dsimp only at h
 unfold aeff at h
 split at h
 ·-- alloc
  rename_i t
  obtain ⟨hz,hk⟩:=h
  refine' H7
  obtain ⟨q1,q2,q3⟩:=zly hs h2 (zX P 12 t) t
  refine .inl ⟨.pointer (some ⟨W.heap.size,0,none⟩),W.alloc (.cells z.cells t),?_,_,_,_,hk,q1,q2,q3⟩
  simp [execOp,Instr.alloc,h1,newVar,newRow]
 ·-- box
  rename_i t x
  obtain ⟨hg,hc,hk⟩:=h
  have hx:Rep W E s.h ((s.ev x).2.tag P t) (a.eval x):=Rep.tag (ev_ok hs.slots x hg)
  obtain ⟨h2,_⟩:=hx.cells hc
  obtain ⟨q1,q2,q3⟩:=zly hs h2 (zX P 12 t) t
  refine .inl ⟨.pointer (some ⟨W.heap.size,0,none⟩),W.alloc (.cells (a.eval x).cells t),?_,_,_,_,hk,q1,q2,q3⟩
  simp [execOp,Instr.box,newVar,newRow]
 ·-- build
  rename_i t parts
  obtain ⟨hz,hg,h⟩:=h
  refine' H7
  split at h
  ·rename_i fs ht
   obtain ⟨hfs,hq,hk⟩:=h
   obtain ⟨gs,hu,hgs,_⟩:=zfz ht
   have hmap:∀w,(gs.mapM fun (f:Field)=>do pure (f.offset,← sizeOf f.type)).run P w= .ok (gs.map fun (f:Field)=>(f.offset,(ty P f.type).size)) w:=by
    intro w
    have:∀ (l:List Field),(∀f∈l,(ty P f.type).td≠ .other)→∀w,(l.mapM fun (f:Field)=>do pure (f.offset,← sizeOf f.type):Sem (List (Nat×Nat))).run P w= .ok (l.map fun (f:Field)=>(f.offset,(ty P f.type).size)) w:=by
     intro l
     induction l with
     |nil=>simp
     |cons f l ih=>
      intro hl w
      obtain ⟨d,hd⟩:=zcp (hl f fZ)
      simp only [List.mapM_cons,ai,zQ hd,ah,ar,ih fU,au]
    rw [Array.mapM_eq_mapM_toList]
    simp only [Sem.run_map]
    rw [this gs.toList (fun f hf=>by
     have:=bw.1 hfs (f.offset,f.type) fU
     grind)]
    simp only [ah]
    rw [← eF]
   obtain ⟨c',g1,g2⟩:=zmv (pl:=fun i=>(fs[i]?).map fun f=>(f.1,(ty P f.2).size)) _ _ _ z.cells hq h2 (zmz (P:=P) hs.slots (fun i=>(fs.getD i (0,0)).2) hg)
   have hpl:(fun (i:Nat)=>(fs[i]?).map fun (f:Nat×Nat)=>(f.1,(ty P f.2).size))=(fun i=>(gs.map fun (f:Field)=>(f.offset,(ty P f.type).size))[i]?):=by
    grind
   rw [hpl] at g1
   refine .inl ⟨.agg c',W,?_,E,s.h,_,hk,hs,Evo.refl _ _ _ _,?_⟩
   ·simp only [execOp,Instr.build,ai,h1,ah,run_underlying hu,hmap,g1,ar]
   ·simp only [Rep];grind
  ·rename_i n e ht
   obtain ⟨he,hq,hk⟩:=h
   refine' Is
   obtain ⟨c',g1,g2⟩:=zmv (pl:=fun i=>some (i*(ty P e).size,(ty P e).size)) _ _ _ z.cells hq h2 (zmz (P:=P) hs.slots (fun _=>e) hg)
   refine .inl ⟨.agg c',W,?_,E,s.h,_,hk,hs,Evo.refl _ _ _ _,?_⟩
   ·simp only [execOp,Instr.build,ai,h1,ah,run_underlying (zeR ht),zQ hde,g1,ar]
   ·simp only [Rep];grind
  ·grind
 ·-- buildSlice
  rename_i t len parts
  split at h
  ·rename_i e ht
   obtain ⟨hz,hg,he,hk0,hsm,hq,hk⟩:=h
   refine' H7
   refine' Is
   have hk1:z.cells.size=(ty P e).size:=h3
   have hz0:=zv6 (n:=len) h2 hk1
   obtain ⟨c',g1,g2⟩:=zmv (pl:=fun i=>some (i*(ty P e).size,(ty P e).size)) _ _ _ _ hq hz0 (zmz (P:=P) hs.slots (fun _=>e) hg)
   have hzl:(zK P 12 e).length=(ty P e).size:=by have:=Reps.length h2;grind
   have hfl:∀ (pl:Nat→Option (Nat×Nat)) (ps:List (Nat×AV)) (cs:List AV),(fillL pl cs ps).2.length=cs.length:=by
    intro pl ps
    induction ps with
    |nil=>intro cs;rfl
    |cons p ps ih=>
     intro cs
     obtain ⟨i,v⟩:=p
     simp only [fillL]
     cases pl i with
     |none=>rfl
     |some q=>simp only;rw [ih,zeS]
   have hrows:=zv7 (W:=W) (E:=E) (s:=s) hk0 len 0 g2 ig
   rw [← List.range_eq_range',dj,cP] at hrows
   have hcl:c'.size=len*(ty P e).size:=by have:=Reps.length g2;simp_all
   have hrun:(execOp a.eval ⟨dst,.buildSlice t len parts,ot,pos,after,guard⟩).run P W= .ok (.value (.slice (some ⟨W.heap.size,0,none⟩) len len)) (W.alloc (.cells c' e)):=by
    have hn:¬len*(ty P e).size>2 ^ 24:=fT
    have g1':Instr.fill (fun i=>some (i*(ty P e).size,(ty P e).size)) ((Array.range (len*(ty P e).size)).map ((if len*(ty P e).size=0 then #[] else z.cells)[· % (if len*(ty P e).size=0 then #[] else z.cells).size]!)) (parts.map fun (i,x)=>(i,a.eval x)).toList=some c':=by
     grind
    simp only [execOp,Instr.buildSlice,ai,run_underlying (zY ht),zQ hde,ah,ew,hn,aK,ar]
    by_cases h0:len*(ty P e).size=0
    ·simp only [h0,av] at g1' ⊢
     simp only [ar,ah,g1',newRow,ai,run_newObj,World.alloc_eq]
    ·simp only [h0,aK] at g1' ⊢
     simp only [ai,h1,ar,ah,g1',newRow,run_newObj,World.alloc_eq]
   split at hk
   ·rename_i ds hds
    obtain ⟨r1,r2⟩:=zob hrows hds
    have r2':ds.length=len:=fU
    obtain ⟨q1,q2,q3⟩:=zhM hs r1 (cap:=len) fT hcl e _ rfl
    rw [r2'] at q3
    exact .inl ⟨_,_,hrun,_,_,_,hk,q1,q2,q3⟩
   ·obtain ⟨h0,hk⟩:=hk
    obtain ⟨q1,q2,q3⟩:=zn7 hs (.cells c' e)
    refine .inl ⟨_,_,hrun,E,s.h,_,hk,q1,q2,?_⟩
    refine' Fg
    refine ⟨⟨W.heap.size,0,none⟩,len,c',e,(0,0),fZ,rfl,fZ,?_,zeb _ _,?_⟩
    ·rintro (hx|hx|hx)
     ·have:=(hs.hp.own _ hx).1;grind
     ·have:=hs.hp.mlt _ hx;grind
     ·have:=hs.hp.nlt _ hx;grind
    ·rw [cP]
     refine RepARows.step fU (fun b hb _=>?_) _ _ _ (fun j _=>GoesOn.refl E s.h j) hrows
     show (W.heap.push _)[b]?=_
     grind
  ·grind
 ·-- store
  rename_i t x y
  obtain ⟨hgx,hgy,ht,hc,hsz,h⟩:=h
  have hx:=ev_ok hs.slots x hgx
  have hy:Rep W E s.h ((s.ev y).2.tag P t) (a.eval y):=Rep.tag (ev_ok hs.slots y hgy)
  obtain ⟨hcs,h1c⟩:=hy.cells hc
  have hvs:(a.eval y).cells.size=(ty P t).size:=by
   have:=Reps.length hcs
   grind
  split at h
  ·rename_i i o hxe
   rw [hxe] at hx
   split at h
   ·rename_i cs hi
    obtain ⟨hl,hk⟩:=h
    refine' Fz
    obtain ⟨b,cs',hi',hb,hv⟩:=hx
    rw [hi] at hi';cases hi'
    obtain ⟨b',c,T,fz,g1,g2,g3,g4⟩:=hs.hp.var hi
    rw [hb] at g1;cases g1
    obtain ⟨q1,q2⟩:=zB9 hs hi hcs hb g2 (o:=o)
    refine' E8
   ·grind
  ·rename_i i o hxe
   rw [hxe] at hx
   split at h
   ·rename_i tt cs hi
    obtain ⟨hl,hk⟩:=h
    refine' Fz
    obtain ⟨b,t',cs',hi',hb,hv⟩:=hx
    rw [hi] at hi';cases hi'
    obtain ⟨b',c,T,fz,g1,g2,g3,g4,g5⟩:=hs.hp.tvar hi
    rw [hb] at g1;cases g1
    obtain ⟨q1,q2⟩:=zzg hs hi hcs hb g2 (o:=o)
    refine' E8
   ·grind
  ·rename_i i n k r o hxe
   rw [hxe] at hx
   split at h
   ·rename_i k' xs hi
    obtain ⟨rfl,hn,hr,hl,h⟩:=h
    split at h
    ·rename_i ds hds
     refine' Fz
     obtain ⟨-,xs',hi',_,hv⟩:=hx
     rw [hi] at hi';cases hi'
     obtain ⟨b,hb,hv⟩:=hv hn
     have hob:=hs.hp.heap i _ hi
     simp only [RepObj] at hob
     rcases hob with ⟨h0,_⟩|⟨b',c,T,fz,g1,g2,g3,g4,g5,g6⟩
     ·grind
     rw [hb] at g1;cases g1
     have hul:(a.eval y).cells.toList.length=(ty P t).size:=fU
     obtain ⟨q1,q2⟩:=zqi hs hi (Reps.toDs hcs hds) (r:=r) (o:=o) fT fT hb g2
     have hrow:=RepRows.length_le g5
     refine .inr ⟨_,?_,E,_,.any,h,q1,q2,by simp [Rep]⟩
     simp only [execOp,hv,Instr.storeAt,Instr.sureAddr,ai,ar,ah]
     have hrk:r*k'+k'≤xs.length*k':=by
      rw [← cQ];exact cC _ fT
     rw [zgD ht g2 g6 hvs fU h1c]
     rfl
    ·grind
   ·grind
  ·grind
 ·exact zv5 hs _ h
end
open Go
def zfe (P:Program) (f:FuncId):Prop:=∀args w,(callFunc f args).run P w= .ok (.enter f args) w
structure EvoC (fl:Nat) (E:Env) (h:AHeap) (w:World) (E':Env) (h':AHeap) (w':World):Prop where
 os:w'.os=w.os
 tape:w'.tape=w.tape
 output:w'.output=w.output
 size:w.heap.size<=w'.heap.size
 keep:∀b,b<w.heap.size->¬Own E h b->w'.heap[b]?=w.heap[b]?
 own:∀b,Own E' h' b->Own E h b\/w.heap.size<=b
 m:E'.M=E.M
 n:E'.N=E.N
 go:∀i,i<fl->(hget h' i).isSome->(hget h i).isSome/\GoesOn E h E' h' i
def ACall (P:Program) (f:FuncId) (fl:Nat) (args:List AV) (h:AHeap) (K:AV->AHeap->Prop):Prop:=
 zfe P f/\∀E w (vs:Array Value),SatH E h w->Reps w E h args vs.toList->
  Calls P f vs w (λe w'=>∃v E' r h',e= .returned v/\K r h'/\SatH E' h' w'/\Rep w' E' h' r v/\EvoC fl E h w E' h' w')
def ACallAt (P:Program) (fl:Nat) (f:FuncId) (args:List AV) (h:AHeap) (K:AV->AHeap->Prop):Prop:=
 zfe P f/\∀E w (vs:Array Value),SatH E h w->Reps w E h args vs.toList->
  Calls P f vs w (λe w'=>∃v E' r h',e= .returned v/\K r h'/\SatH E' h' w'/\Rep w' E' h' r v/\EvoC fl E h w E' h' w'/\
   (∀x y,Rep w E h x y->Rep w' E' h' x y))
def zoc (P:Program) (t:TypeId) (m:String):Option FuncId:=
 match P.info? t,P.underlying t with
 | some i,some d=>(match i.methods.find? (·.name==m) with
  |some r=>(match r.func,r.path.isEmpty,d with
   |_,_,.pointer _=>none
   |some (f,false),true,_=>some f
   |_,_,_=>none)
  |none=>none)
 |_,_=>none
def ztU {P} {t} {m} {f} (h:zoc P t m=some f) n v w:(method (n+1) t v m).run P w= .ok (f,v) w:=by
 unfold zoc at h;split at h
 .rename_i i d hi J;split at h
  .rename_i r hr;unfold method;rw [ai,run_typeInfo w hi];simp only [ah,hr];split at h
   .grind
   .rename_i d' f' hf hp Cm;simp only [aB] at h;subst h;have gB:r.path.toList= []:=fU;rw [gB];simp only [follow,ar,ai,ah,hf,receiverAt,run_underlying J];simp only [Place.get,ar,ah]
   .grind
  .grind
 .grind
def zbG (P:Program) (s:AS) (c:Call):Option (FuncId×List AV×Prop):=
  match c.callee with
  | .value f=>match s.ev f with
    |(g,.fn (.func n) fs cs)=>some (n,fs++((c.args.toList.zip (c.argTypes.toList++List.replicate c.args.size 0)).map fun p=>(s.ev p.1).2.tag P p.2)++cs,g=true∧(c.args.toList.all fun x=>(s.ev x).1)=true)
    |_=>none
  | .invoke r m=>match s.ev r with
    | (g,.iface t x)=>(match zoc P t m with
      |some n=>some (n,x::((c.args.toList.zip (c.argTypes.toList++List.replicate c.args.size 0)).map fun p=>(s.ev p.1).2.tag P p.2),g=true∧(c.args.toList.all fun x=>(s.ev x).1)=true)
      |none=>none)
    |_=>none
  |_=>none
def zff:Op->Bool
 | .binOp .. | .unOp .. | .makeInterface .. | .makeFunc .. | .field .. | .fieldAddr .. | .indexAddr .. | .index .. | .slice .. | .load .. | .nilCheck .. | .extract .. | .lookup .. | .typeAssert .. =>true
 | .convert .. =>true
 | .call c=>match c.callee with
  | .builtin .len=>true
  | .builtin .min=>true
  | .builtin .max=>true
  |_=>false
 |_=>false
def isVal (P:Program) (op:Op):Bool:=zff op&& !isX P op
def zfB {P} {s} {c} {q} (h:zbG P s c=some q):isVal P (.call c)=false:=by unfold zbG at h;cases hc:c.callee<;>rw [hc] at h<;>first|cases h;done|simp [isVal,zff,hc]
def known (s:AS):Operand->Bool
 | .tmp t=>(lk s.t t).isSome
 |_=>true
def dstOk (nt:Nat):Option Nat->Prop
 |some d=>d<nt
 |none=>True
def AV.isB:AV->Bool
 | .d (.bool _)=>true
 |_=>false
def AV.toB:AV->Bool
 | .d (.bool x)=>x
 |_=>false
def AV.isB_eq {v:AV} (h:v.isB=true):v= .d (.bool v.toB):=by
 unfold AV.isB at h;split at h
 .rfl
 .cases h
def aop1 (cx:Cx) (o:Oper) (K:AS->Prop) (s:AS):Prop:=
 match o.op with
 | .move x=>known s x=true/\K (s.put o.dst (s.ev x).1 ((s.ev x).2.tag cx.P o.type))
 | .assign x=>known s x=true/\K (s.put o.dst (s.ev x).1 ((s.ev x).2.tag cx.P o.type))
 | .pick c a b=>(match s.ev c with
  |(gc,.d (.bool c))=>gc=true/\(c=true->(s.ev a).1=true/\(s.ev a).2.isB=true)/\(c=false->(s.ev b).1=true/\(s.ev b).2.isB=true)/\K (s.put o.dst true (.d (.bool (bif c then (s.ev a).2.toB else (s.ev b).2.toB))))
  |_=>False)
 | .call c=>if isVal cx.P (.call c) then (aval cx.P s (.call c)).1/\K (s.put o.dst true (aval cx.P s (.call c)).2) else
  (match zbG cx.P s c with
  |some (f,args,J)=>J/\ACallAt cx.P cx.fl f args s.h (λr h'=>K ({ s with h:=h' }.put o.dst true r))
  |none=>aeff cx.fl cx.P s (.call c) (λr h'=>K ({ s with h:=h' }.put o.dst true r)))
 |op=>if isVal cx.P op then (aval cx.P s op).1/\K (s.put o.dst true (aval cx.P s op).2)
  else aeff cx.fl cx.P s op (λr h'=>K ({ s with h:=h' }.put o.dst true r))
def aop (cx:Cx) (G:Bool) (o:Oper) (K:AS->Prop) (s:AS):Prop:=
 dstOk cx.nt o.dst/\
 match o.op with
 | .move x=>known s x=true/\K (s.put o.dst (G&&(s.ev x).1) ((s.ev x).2.tag cx.P o.type))
 | .assign x=>known s x=true/\K (s.put o.dst (G&&(s.ev x).1) ((s.ev x).2.tag cx.P o.type))
 | .pick c a b=>(match s.ev c with
  |(gc,.d (.bool c))=>(G=true->gc=true/\(c=true->(s.ev a).1=true/\(s.ev a).2.isB=true)/\(c=false->(s.ev b).1=true/\(s.ev b).2.isB=true))/\K (s.put o.dst G (.d (.bool (bif c then (s.ev a).2.toB else (s.ev b).2.toB))))
  |_=>False)
 |op=>if isVal cx.P op then (G=true->(aval cx.P s op).1)/\K (s.put o.dst G (aval cx.P s op).2)
  else (G=true->aop1 cx o K s)/\(G=false->K (s.put o.dst false .any))
def zbu (s:AS) (all:Array Oper):Option (Nat×Bool)->Option Bool
 |none=>some true
 | some (j,want)=>match (all[j]?).bind (·.dst) with
  |some d=>match lk s.t d with
   |some (g,.d (.bool b))=>some (g&&(b==want))
   |some (false,_)=>some false
   |_=>none
  |none=>none
section
variable {cx : Cx} {E : Env} {s : AS} {a : Act} {w : World}
def zmA {ro} {P} {f} {args} {w} {R} n (h:Calls P f args w R):CallsIn { Fence.wide with round:=ro } n P f args w R:=eG.2 h
def EvoC.evo {fl} {h h'} {E'} {w'} (c:EvoC fl E h w E' h' w'):Evo fl E h w E' h' w':=
 ⟨c.os,c.tape,c.output,c.size,λb J ho _=>c.keep b J ho,c.own,λb J=>by rwa [c.m],λb J=> .inl (by rwa [<-c.m]),c.n,c.go⟩
def Sat.call {h'} {E'} {w'} (J:Sat cx E s a w) (hh:SatH E' h' w') (c:EvoC cx.fl E s.h w E' h' w') (lE:∀x y,Rep w E s.h x y->Rep w' E' h' x y):Sat cx E' { s with h:=h' } a w' where
 slots:=λk g v hk=>by
  obtain ⟨x,h1,h2,h3⟩:=J.slots k g v hk
  grind
 nt:=J.nt
 hp:=hh
 base:=⟨aD J.base.1 c.size,J.base.2⟩
 marks:=J.marks.step (λb _ hb=>by rwa [<-c.m]) (λr hr hm=>c.keep r (aI.1 hr).1 (J.hp.not_mark hr))
 ghost:=by rw [c.m,c.n];exact cx.stab _ _ _ _ _ _ _ (λb hb ho=>c.keep b hb fU) (λb hb=>hb.elim (λhb=>(c.own b hb).imp .inl id) fU) (λb hb=>hb.elim (λh=>(hh.own b h).1) (λh=>aE (J.marks.lt h) c.size)) c.size c.tape c.os c.output J.ghost
def Does.wpIn {o} {R} {Q} {next} (hd:∀c,o.op≠ .defer c) (h:Does cx.P (execOp a.eval o) w R) (J:∀v w',R v w'->next (a.put o.dst v) w'):
  o.wpIn cx.F 0 cx.P a w next Q:=by
 refine' HV;rw [dS _ _ _ hd];rcases h with ⟨v,w',h1,h2⟩|⟨w',h1,h2⟩
 .rw [h1];exact J v w' h2
 .rw [h1];exact J undef w' h2
def zlF {o} {c} (an:o.op= .call c) {f} {args} {vc} (hs:Sat cx E s a w) (b9:zbG cx.P s c=some (f,args,vc)) (jb:vc) (ix:zfe cx.P f):
  ∃vs:Array Value,Reps w E s.h args vs.toList/\(execOp a.eval o).run cx.P w= .ok (.enter f vs) w:=by
 refine' Eo;subst an;obtain ⟨callee,lH,yw⟩:=c
 have tO:(lH.toList.all λx=>(s.ev x).1)=true->Reps w E s.h ((lH.toList.zip (yw.toList++List.replicate lH.size 0)).map λp=>(s.ev p.1).2.tag cx.P p.2) (lH.toList.map a.eval):=λiy=>by
  have key:∀ (l:List Operand) (ts:List TypeId),l.length<=ts.length->(l.all λx=>(s.ev x).1)=true->Reps w E s.h ((l.zip ts).map λp=>(s.ev p.1).2.tag cx.P p.2) (l.map a.eval):=by
   intro l;induction l with
   |nil=>intro ts _ _;simp [Reps]
   | cons x l ih=>
    intro ts hl ha;cases ts with
    |nil=>grind
    |cons t ts=>
     refine' IA
  grind
 cases callee with
 |builtin b=>simp [zbG] at b9
 | invoke ro m=>
  simp only [zbG] at b9;split at b9
  case h_2=>grind
  case h_1 g t x tP=>
   split at b9
   case h_2=>grind
   case h_1 n tf=>
    obtain ⟨rfl,rfl,rfl⟩:=b9;obtain ⟨hg,iy⟩:=jb;have J:=ev_ok hs.slots ro fU;rw [tP] at J;obtain ⟨y,tQ,hy⟩:=J
    refine ⟨#[y]++lH.map a.eval,by
     have ht:(#[y]++lH.map a.eval:Array Value).toList=y::lH.toList.map a.eval:=ig;rw [ht,Reps]
     grind,?_⟩
    have h0:(#[Value.iface t y]++lH.map a.eval:Array Value)[0]?=some (Value.iface t y):=fU;have h1:(#[Value.iface t y]++lH.map a.eval:Array Value).extract 1 (#[Value.iface t y]++lH.map a.eval:Array Value).size=lH.map a.eval:=fZ;obtain ⟨dp,hd⟩:∃dp,Made.depth=dp+1:=⟨_,rfl⟩
    have hp:(program).run cx.P w= .ok cx.P w:=rfl;simp only [execOp,resolve,ai,ar,ah,invoke,tQ];rw [h0,h1];simp only [callMethod,ai,hp,ah,hd,<-Nat.add_assoc,ztU tf];exact ix _ _
 | value fo=>
  simp only [zbG] at b9;split at b9
  case h_2=>grind
  case h_1 g n fs cs tP=>
   obtain ⟨rfl,rfl,rfl⟩:=b9;obtain ⟨hg,iy⟩:=jb;have J:=ev_ok hs.slots fo fU;rw [tP] at J;obtain ⟨pf,qc,tQ,rb,lA⟩:=J;refine ⟨pf++lH.map a.eval++qc,by simp only [cS,eF];exact (rb.append fU).append lA,?_⟩;simp only [execOp,resolve,tQ,Deferred.ofValue,ai,ar,ah,invoke];exact ix _ _
def zhN {o} {K} {Q} (J:Sat cx E s a w) (hd:dstOk cx.nt o.dst) (h:aop1 cx o K s):o.wpIn cx.F 0 cx.P a w (Reach cx E s.h w K) Q:=by
 have kL:∀k,o.dst=some k->k<cx.nt:=λk e=>kQ
 have n3:(aval cx.P s o.op).1->K (s.put o.dst true (aval cx.P s o.op).2)->(∀c,o.op≠ .defer c)->o.wpIn cx.F 0 cx.P a w (Reach cx E s.h w K) Q:=by intro h1 h2 h3;obtain ⟨v,hv,hr⟩:=zqf J.hp J.slots o h1;refine Does.wpIn h3 (R:=λv' w'=>v'=v/\w'=w) (.inl ⟨v,w,hv,rfl,rfl⟩) ?_;rintro v' w' ⟨rfl,rfl⟩;exact ⟨E,_,h2,J.put kL fU fU,lT⟩
 have yy:aeff cx.fl cx.P s o.op (λr h'=>K ({ s with h:=h' }.put o.dst true r))->(∀c,o.op≠ .defer c)->o.wpIn cx.F 0 cx.P a w (Reach cx E s.h w K) Q:=by intro h1 h3;refine Does.wpIn h3 (zCd J o h1) ?_;rintro v w' ⟨E',h',x,hk,ga,he,hr⟩;exact ⟨E',_,hk,ga.put kL fU fU,by cases o.dst<;>exact he⟩
 have oS:∀x,(execOp a.eval o=pure (.value (a.eval x)))->(∀c,o.op≠ .defer c)->(known s x=true/\K (s.put o.dst (s.ev x).1 ((s.ev x).2.tag cx.P o.type)))->o.wpIn cx.F 0 cx.P a w (Reach cx E s.h w K) Q:=by
  rintro x he h3 ⟨kM,hk⟩;refine' F8;refine ⟨E,_,hk,J.put kL (λe=>Rep.tag (ev_ok J.slots x e)) (λe=>?_),lT⟩;cases x with
  | tmp t=>
   simp only [AS.ev] at e;cases hl:lk s.t t with
   |none=>simp [known,hl] at kM
   |some p=>
    obtain ⟨g,v⟩:=p;obtain ⟨y,hy,_,hu⟩:=J.slots t g v hl;simp only [Act.eval];simp_all
  |const v=>simp [AS.ev] at e
  |func f=>simp [AS.ev] at e
  |global g=>simp [AS.ev] at e
 refine' Eo;unfold aop1 at h;dsimp only at h n3 yy oS;split at h
 .exact oS _ rfl fZ h
 .exact oS _ rfl fZ h
 .rename_i c x y;split at h
  .rename_i gc c' ec;obtain ⟨h1,h2,h3,h4⟩:=h;obtain ⟨x',vZ⟩:∃x',(s.ev x).2.toB=x':=⟨_,rfl⟩
   obtain ⟨y',v7⟩:∃y',(s.ev y).2.toB=y':=⟨_,rfl⟩
   rw [vZ,v7] at h4;have hc:=ev_ok J.slots c fU;rw [ec] at hc;simp only [Rep,RepD] at hc
   have hv:∃v,(execOp a.eval ⟨dst,.pick c x y,ot,pos,after,guard⟩).run cx.P w= .ok (.value v) w/\v= .bool (bif c' then x' else y'):=by
    cases c' with
    |true=>
     have hx:=ev_ok J.slots x (h2 rfl).1;rw [AV.isB_eq (h2 rfl).2,vZ] at hx;simp only [Rep,RepD] at hx;exact ⟨a.eval x,by simp [execOp,hc,asBool],fU⟩
    |false=>
     have hy:=ev_ok J.slots y (h3 rfl).1;rw [AV.isB_eq (h3 rfl).2,v7] at hy;simp only [Rep,RepD] at hy;exact ⟨a.eval y,by simp [execOp,hc,asBool],fU⟩
   obtain ⟨v,mX,rfl⟩:=hv;refine Does.wpIn fZ (R:=λv' w'=>v'= .bool (bif c' then x' else y')/\w'=w) (.inl ⟨_,w,mX,rfl,rfl⟩) ?_;rintro v' w' ⟨rfl,rfl⟩;exact ⟨E,_,h4,J.put kL (λ_=>iI) fU,by cases dst<;>exact Evo.refl _ _ _ _⟩
  .grind
 .rename_i c;split at h
  .grind
  .split at h
   .rename_i f args vc b9;obtain ⟨jb,ix,jm⟩:=h;obtain ⟨vs,iY,iS⟩:=zlF (o:=⟨dst,.call c,ot,pos,after,guard⟩) rfl J b9 jb ix;refine' HV;rw [dS _ _ _ fZ,iS];refine ⟨(λh=>gS),?_⟩;refine (zmA _ (jm E w _ J.hp iY)).mono ?_;rintro e w' ⟨v,E',r,h',rfl,hk,hh,hr,aZ,lE⟩;exact ⟨E',_,hk,(J.call hh aZ lE).put kL fU fU,by cases dst<;>exact aZ.evo⟩
   .grind
 .rename_i jr iT ko mL
  have rO:∀c,op≠ .defer c:=by rintro c rfl;simp [isVal,zff,aeff,zaU] at h
  grind
def zj5 {P} {op} (h:isVal P op=true):∀c,op≠ .defer c:=by rintro c rfl;simp [isVal,zff] at h
def zlG {all} {o} {G} {K} {Q} (hs:Sat cx E s a w) (hg:zbu s all o.guard=some G) (h:aop cx G o K s):
  if Region.wanted o (yielded all a.tmps) then o.wpIn cx.F 0 cx.P a w (Reach cx E s.h w K) Q else (∀f,o.about cx.P w a.eval=some f→cx.F.fn f)∧Reach cx E s.h w K (a.put o.dst undef) w:=by
 obtain ⟨hd,h⟩:=h
 have hw:Region.wanted o (yielded all a.tmps)=G:=by
  unfold zbu at hg
  unfold Region.wanted
  cases ho:o.guard with
  |none=>grind
  | some p=>
   obtain ⟨j,want⟩:=p
   simp only [ho] at hg ⊢
   unfold yielded
   cases hj:(all[j]?).bind (·.dst) with
   |none=>grind
   | some d=>
    simp only [hj] at hg
    cases hl:lk s.t d with
    |none=>grind
    | some q=>
     obtain ⟨g,v⟩:=q
     obtain ⟨x,hx,hr,hu⟩:=hs.slots d g v hl
     simp only [hl] at hg
     simp only [fc,hx]
     split at hg
     ·rename_i g' b e
      simp only [aB,aJ] at e hg
      refine' GA
      subst hg
      cases g with
      |true=>
       have:=hr rfl
       simp only [Rep,RepD] at this
       grind
      |false=>
       refine' I6
     ·rename_i v' e
      simp only [aB,aJ] at e hg
      refine' GA
      subst hg
      refine' I6
     ·grind
 rw [hw]
 have hev0:∀ (x:AV) (g:Bool),Evo cx.fl E s.h w E (s.put o.dst g x).h w:=fun x g=>lT
 cases G with
 | true=>
  have h1:aop1 cx o K s∨(isVal cx.P o.op=true∧(aval cx.P s o.op).1∧K (s.put o.dst true (aval cx.P s o.op).2)):=by
   split at h
   ·rename_i x he;left;unfold aop1;grind
   ·rename_i x he;left;unfold aop1;grind
   ·rename_i c x y he
    left;unfold aop1;grind
   grind
  rcases h1 with h1|⟨hv,h1,h2⟩
  ·exact zhN hs hd h1
  ·obtain ⟨v,hv1,hr⟩:=zqf hs.hp hs.slots o h1
   refine Does.wpIn (zj5 hv) (R:=fun v' w'=>v'=v∧w'=w) (.inl ⟨v,w,hv1,rfl,rfl⟩) ?_
   rintro v' w' ⟨rfl,rfl⟩
   exact ⟨E,_,h2,hs.put (fun k e=>kQ) fU fU,fU⟩
 | false=>
  refine' HV
  have hput:∀x,Sat cx E (s.put o.dst false x) (a.put o.dst undef) w:=fun x=>hs.put (fun k e=>kQ) fU fU
  split at h
  ·exact ⟨E,_,h.2,hput _,fU⟩
  ·exact ⟨E,_,h.2,hput _,fU⟩
  ·split at h
   ·exact ⟨E,_,h.2,hput _,fU⟩
   ·grind
  ·split at h
   ·exact ⟨E,_,h.2,hput _,fU⟩
   ·exact ⟨E,_,h.2 rfl,hput _,fU⟩
def zj6 {F} {n} {P} {o:Oper} {Q Q'} {n1 n2} (h:o.wpIn F n P a w n1 Q) (hn:∀a w,n1 a w->n2 a w) (hQ:∀e a w,Q e a w->Q' e a w):o.wpIn F n P a w n2 Q':=by
 obtain ⟨h1,h2⟩:=h;refine ⟨h1,?_⟩;revert h2;generalize (o.semAt F.round a.eval).run P w=r;intro h2;have hl:LetsOut Q->LetsOut Q':=by rintro ⟨_,_,h⟩;exact ⟨_,_,hQ _ _ _ h⟩
 cases r with
 | ok nx w'=>
  cases nx<;>simp only [Oper.uponIn] at h2 |-
  case value v=>grind
  case skip=>grind
  case defer d=>grind
  case enter f args=>exact ⟨h2.1,h2.2.mono λe w'' J=>by
   grind⟩
  case row r args=>exact ⟨h2.1,h2.2.mono λv w'' J=>hn _ _ J⟩
  case round l f t aZ b=>exact ⟨h2.1,h2.2.mono λe w'' J=>by
   grind⟩
 |halt x w'=>cases x<;>simp only [Oper.uponIn] at h2 ⊢ <;>first|grind|exact h2
def za4 {o:Oper} {Q} {n1 n2} (h:o.wpIn cx.F 0 cx.P a w n1 (λ_ _ _=>False)) (J:∀a w,n1 a w->n2 a w):o.wpIn cx.F 0 cx.P a w n2 Q:=
 zj6 h J fU
def zaa {F} {n} {P} {all} {Q Q'} :∀ (l:List Nat) {a:Act} {w:World},wpOpsIn F n P all Q l a w->(∀e a w,Q e a w->Q' e a w)->wpOpsIn F n P all Q' l a w
 | [],a,w,h,J=>J _ _ _ h
 | i::l,a,w,h,J=>by
  simp only [wpOpsIn] at h |-;split
  .rename_i ho;simp only [ho] at h;exact zaa l h J
  .rename_i o ho;simp only [ho] at h;split
   .rename_i hw;rw [aa hw] at h;exact zj6 h (λ_ _ h=>zaa l h J) J
   .rename_i hw;rw [U hw] at h;exact ⟨h.1,zaa l h.2 J⟩
def zeU {α:Type} (all:Array α):(List.range all.size).map (all[·]?)=all.toList.map some:=by
 apply dk
 grind
def za1 {c} {x y} {Q} {b} (hc:s.ev c=(true,.d (.bool b))) (ht:b=true->AW cx x Q s) (hf:b=false->AW cx y Q s):AW cx (.cond c x y) Q s:=by intro E a w J;have:=ev_ok J.slots c (by rw [hc]);rw [hc] at this;exact wpIn_cond_split this (λe=>ht e E a w J) (λe=>hf e E a w J)
end
open Go
def ares (P:Program) (s:AS):List ResultVar->Prop×List AV
 | []=>(True,[])
 | .tmp t::r=>((s.ev (.tmp t)).1=true/\(ares P s r).1,(s.ev (.tmp t)).2::(ares P s r).2)
 | .cell x t::r=>((s.ev (.tmp x)).1=true/\(zfd P s t (s.ev (.tmp x)).2).1/\(ares P s r).1,(zfd P s t (s.ev (.tmp x)).2).2::(ares P s r).2)
def one:List AV->AV
 | [v]=>v
 |vs=> .tup vs
def RetK (P:Program) (fn:Func) (K:AV->AHeap->Prop):Exit->AS->Prop
 | .normal,s=>(ares P s fn.results.toList).1/\K (one (ares P s fn.results.toList).2) s.h
 | .ret,s=>(ares P s fn.results.toList).1/\K (one (ares P s fn.results.toList).2) s.h
 |_,_=>False
def za8:Nat->List AV->List (Nat×(Bool×AV))
 |_,[]=> []
 |i,a::r=>(i,(true,a))::za8 (i+1) r
def cxOf (P:Program) (base nt fl:Nat):Cx:= { P:=P,ro:=none,base:=base,nt:=nt,fl:=fl,G:=λ_ _ _ _ _=>True,stab:=λ_ _ _ _ _ _ _ _ _ _ _ _ _ _ _=>trivial,yok:=λxs x _ _ _ _ _ _ _ _ _ hp=>absurd hp fZ }
section
variable {P : Program}
def zfg:∀ (args:List AV) (i k:Nat) {g:Bool} {v:AV},lk (za8 i args) k=some (g,v)->g=true/\i<=k/\args[k - i]?=some v
 | [],i,k,g,v,h=>by simp [za8,lk] at h
 | a::r,i,k,g,v,h=>by
  simp only [za8,lk] at h;split at h
  .grind
  .rename_i e;obtain ⟨h1,h2,J⟩:=zfg r (i+1) k h
   grind
structure Shut (base:Nat) (w w':World):Prop where
 os:w'.os=w.os
 tape:w'.tape=w.tape
 output:w'.output=w.output
 size:w'.heap.size=w.heap.size
 low:∀b,b<base->w'.heap[b]?=w.heap[b]?
 keep:∀ (b:Nat) (o:Obj),w.heap[b]?=some o->(∀ds,o≠ .deferred ds)->(∀r,o≠ .loop r)->w'.heap[b]?=some o
def Shut.refl base w:Shut base w w:=⟨rfl,rfl,rfl,rfl,λ_ _=>rfl,λ_ _ h _ _=>h⟩
def zgG {base} {E} {fn} {tmps} {R} :∀ (ds:List Deferred) (w:World),Marks base E w ds->
  (∀w'',Shut base w w''->(∀b,¬zaL ds b->w''.heap[b]?=w.heap[b]?)->∃v,(results fn tmps).run P w''= .ok v w''/\R (.returned v) w'')->LeavesInM Fence.wide 0 P fn tmps R ds .returning w
 | [],w,_,h=>h w (Shut.refl _ _) fU
 | d::ds,w,hm,h=>by
  obtain ⟨r,h1,h2,h3,h4⟩:=hm.1 d fZ;refine ⟨fZ,.inl ⟨r,w.putObj r (.deferred none),h1,run_takeDeferred h2,?_⟩⟩;have hr:=(aI.1 h2).1;refine zgG (base:=base) (E:=E) ds _ ⟨λd' pH=>?_,?_⟩ (λw'' J ho=>h w'' ?_ ?_)
  .obtain ⟨r',g1,g2,g3,g4⟩:=hm.1 d' fU
   have b5:r'≠r:=by
    intro e;subst e;have:=hm.2
    grind
   exact ⟨r',g1,(cf b5).trans g2,g3,g4⟩
  .have:=hm.2
   grind
  .refine ⟨J.os,J.tape,J.output,by rw [J.size];simp,λb hb=>(J.low b hb).trans (cf fT),λb o hb ho hl=>J.keep b o ?_ ho hl⟩
   have b5:b≠r:=by
    grind
   exact (cf b5).trans hb
  .intro b hb;refine (ho b (λ⟨d',pH,e⟩=>hb ⟨d',fU,e⟩)).trans (cf (λe=>hb ⟨d,fZ,fU⟩))
def Shut.hK {base} {w w'} (h:Shut base w w') {X} :KIn w w' X:=λb o hb J _=>h.keep b _ hb (by rintro ds rfl;cases J) (by rintro ds rfl;cases J)
def SatH.refit {E E'} {h} {w w'} {base} (hs:SatH E h w) (sh:Shut base w w') (hO:E'.O=E.O) (hC:E'.C=E.C) (hX:∀b,b<w.heap.size->Xs E' h b->Xs E h b)
  (own:∀b,Own E h b->¬E'.M b/\¬E'.N b) (m:∀b,E'.M b->b<w.heap.size) (n:∀b,E'.N b->b<w.heap.size):SatH E' h w' where
 heap:=λi o ho=>by
  have hg:∀j,GoesOn E h E' h j:=λj=>by
   unfold GoesOn
   grind
  have:=hs.heap i o ho;cases o with
  |var cs=>
   refine' DG;refine' Gr
  |tvar tt cs=>
   refine' DG;refine' Gr
  |arr k xs=>
   refine' EK;rcases this with h0|⟨b,d,T,fz,h1,h2,J,h4,h5,h6⟩
   .grind
   .exact .inr ⟨b,d,T,fz,h1,sh.keep _ _ h2 fU fU,J,h4,RepRows.stepc (hX_of hX) sh.hK _ _ _ h5,h6⟩
  |buf tt xs=>
   refine' EK;rcases this with h0|⟨b,d,T,fz,h1,h2,J,h4,h5,h6⟩
   .grind
   .exact .inr ⟨b,d,T,fz,h1,sh.keep _ _ h2 fU fU,J,h4,h5,h6⟩
  |strit l p=>
   refine' DG;obtain ⟨b,h1,h2⟩:=this;exact ⟨b,h1,sh.keep _ _ h2 fU fU⟩
  |omap es=>
   refine' DG;obtain ⟨b,mm,cl,h1,h2,J⟩:=this;exact ⟨b,mm,cl,h1,sh.keep _ _ h2 fU fU,J⟩
 inj:=λi j b h1 h2=>by rw [hO];exact hs.inj i j b h1 h2
 own:=λb hb=>by
  have ib:Own E h b:=by obtain ⟨i,hi,he⟩:=hb;exact ⟨i,hi,fU⟩
  exact ⟨by rw [sh.size];exact (hs.own b ib).1,fU⟩
 mlt:=λb hb=>xK
 nlt:=λb hb=>xK
def Rep.refit {E E'} {h} {w w'} {base} (sh:Shut base w w') (hO:E'.O=E.O) (hC:E'.C=E.C) (hX:∀b,b<w.heap.size->Xs E' h b->Xs E h b) {a} {v} (J:Rep w E h a v):Rep w' E' h a v:=
 Rep.stepc (hX_of hX) sh.hK a v (λj _=>xh) J
def Reps.refit {E E'} {h} {w w'} {base} (sh:Shut base w w') (hO:E'.O=E.O) (hC:E'.C=E.C) (hX:∀b,b<w.heap.size->Xs E' h b->Xs E h b) {a} {v} (J:Reps w E h a v):Reps w' E' h a v:=
 Reps.stepc (hX_of hX) sh.hK a v (λj _=>xh) J
def zlH (tmps:Array Value):ResultVar->Sem Value
 | .tmp t=>pure (tmps.getD t undef)
 | .cell a t=>asAddr (tmps.getD a undef) >>= λp=>loadVar t p
def oneV:List Value->Value
 | [v]=>v
 |vs=> .tuple vs.toArray
def zlI fn tmps:results fn tmps=(do let vs <-fn.results.mapM (zlH tmps);pure (if h:vs.size=1 then vs[0] else .tuple vs)):=by unfold results;congr 1
def zqo {fn} {tmps} {vs} {w} (h:(fn.results.toList.mapM (zlH tmps)).run P w= .ok vs w):(results fn tmps).run P w= .ok (oneV vs) w:=by
 rw [zlI,Array.mapM_eq_mapM_toList];simp only [ai,Sem.run_map,h,ah,ar]
 match vs with
 | []=>rfl
 | [v]=>rfl
 |v::u::r=>rfl
def zqp {E} {s} {a} {w} (hp:SatH E s.h w) (J:Slots w E s a):∀ (l:List ResultVar),(ares P s l).1->∃vs,(l.mapM (zlH a.tmps)).run P w= .ok vs w/\Reps w E s.h (ares P s l).2 vs
 | [],_=>⟨[],fZ,by simp [ares,Reps]⟩
 | .tmp t::l,h=>by simp only [ares] at h |-;obtain ⟨vs,h1,h2⟩:=zqp hp J l h.2;have:=ev_ok J (.tmp t) h.1;simp only [Act.eval] at this;refine ⟨a.tmps.getD t undef::vs,?_,wK⟩;simp only [List.mapM_cons,zlH,ai,ar,ah,h1]
 | .cell x t::l,h=>by
  simp only [ares] at h |-;obtain ⟨vs,h1,h2⟩:=zqp hp J l h.2.2;have hx:=ev_ok J (.tmp x) h.1;obtain ⟨v,h3,h4⟩:=zn3 (P:=P) hp h.2.1 hx;refine ⟨v::vs,?_,wK⟩
  have h5:(zlH a.tmps (.cell x t)).run P w= .ok v w:=by
   simp only [Act.eval] at h3;revert h3;unfold Instr.loadAt Instr.sureAddr zlH asAddr;simp only [ai];cases a.tmps.getD x undef with
   |pointer p=>
    cases p with
    |none=>simp_all
    |some p=>grind
   |_=>simp_all
  simp_all
def zCe {E} {h} {w} {aZ} {vs} (J:Reps w E h aZ vs):Rep w E h (one aZ) (oneV vs):=by
 match aZ,vs,J with
 | [],vs,J=>simp only [Reps] at J;subst J;simp [one,oneV,Rep,Reps]
 | [a],vs,J=>
  refine' Ip;obtain ⟨v,r,rfl,h1,rfl⟩:=J;simpa [one,oneV] using h1
 |a::b::aZ,vs,J=>
  have gn:=J;refine' Ip;obtain ⟨v,r,rfl,h1,u,r',rfl,h2,h3⟩:=J;simp only [one,oneV,Rep]
  grind
def zcR {f} {fn} (J:P.funcs[f]?=some fn) (hn:(fn.name== "runtime.NumGoroutine")=false) (hb:fn.body.isNone=false):zfe P f:=by intro args w;simp only [callFunc,ai,run_program,ah,J,hn,hb,bj,aK,ar]
def zbj {f} {fn} {c} {nt fl} {args} {h} {K} (hf:P.funcs[f]?=some fn) (J:fn.body=some c) (ix:zfe P f) (jL:fn.ntmps=nt) (hn:args.length<=nt)
  (kp:∀base,AW (cxOf P base nt fl) c (RetK P fn K) { t:=za8 0 args,h:=h,g:=some [] }):ACall P f fl args h K:=by
 refine ⟨ix,λE w vs hs hr=>(eG (n:=0)).1 (fi hf J trivial ?_ rfl)⟩;subst jL;have hlen:=Reps.length hr;let E1:Env:= { O:=E.O,C:=E.C,M:=λ_=>False,N:=λb=>E.M b\/E.N b }
 have np:∀b,b<w.heap.size->Xs E1 h b->Xs E h b:=λb _ hx=>by
  refine' Gz
  .exact .inl hx
  .grind
  .exact .inr hx
 have a8:SatH E1 h w:=hs.refit (Shut.refl 0 w) rfl rfl np (λb J=>⟨λh=>h,λhn=>hn.elim (hs.own b J).2.1 (hs.own b J).2.2⟩) fU (λb hn=>hn.elim (hs.mlt b) (hs.nlt b));refine' Im
 have qE:Sat (cxOf P w.heap.size fn.ntmps fl) E1 { t:=za8 0 args,h:=h,g:=some [] } { tmps:=vs++Array.replicate (fn.ntmps - vs.size) undef,defers:= [] } w:=by
  refine ⟨λk g v hk=>?_,?_,a8,⟨aj _,λ_=>rfl⟩,⟨fZ,fZ⟩,trivial⟩
  .obtain ⟨rfl,_,hv⟩:=zfg args 0 k hk;obtain ⟨x,hx,tR⟩:=Reps.get ka hv
   grind
  .have:vs.size=args.length:=by grind
   simp [cxOf];omega
 refine aT (kp w.heap.size E1 _ w qE) ?_;intro e a2 w2 jj
 have key:Reach (cxOf P w.heap.size fn.ntmps fl) E1 h w (λs=>(ares P s fn.results.toList).1/\K (one (ares P s fn.results.toList).2) s.h) a2 w2->LeavesInM Fence.wide 0 P fn a2.tmps (λe w'=>∃v E' r h',e= .returned v/\K r h'/\SatH E' h' w'/\Rep w' E' h' r v/\EvoC fl E h w E' h' w') a2.defers .returning w2:=by
  rintro ⟨E2,s2,⟨yB,hK⟩,eg,e9⟩;refine zgG a2.defers w2 eg.marks (λw3 sh _=>?_);refine' HF
  have yC:Slots w3 E2 s2 a2:=λk g v hk=>by obtain ⟨x,h1,h2,h3⟩:=eg.slots k g v hk;exact ⟨x,h1,λe=>Rep.refit sh rfl rfl fU (h2 e),h3⟩
  obtain ⟨us,yD,yE⟩:=zqp (P:=P) il yC fn.results.toList yB;refine ⟨_,zqo yD,?_⟩;have r2:∀b,E2.M b->w.heap.size<=b:=λb J=>(e9.m2 b J).elim fU id;have n4:E2.N=λb=>E.M b\/E.N b:=e9.n;let E3:Env:= { O:=E2.O,C:=E2.C,M:=E.M,N:=E.N }
  have r3:∀b,b<w3.heap.size->Xs E3 s2.h b->Xs E2 s2.h b:=λb _ hx=>by
   refine' Gz
   .exact .inl hx
   .exact .inr fU
   .exact .inr fU
  have gd:w.heap.size<=w3.heap.size:=by rw [sh.size];exact e9.size
  refine ⟨_,E3,_,s2.h,rfl,hK,?_,Rep.refit (E:=E2) (E':=E3) (Shut.refl 0 w3) rfl rfl r3 (zCe yE),?_⟩
  .refine il.refit (E':=E3) (Shut.refl 0 w3) rfl rfl r3 (λb J=>?_) (λb J=>aE (hs.mlt b J) gd) (λb J=>aE (hs.nlt b J) gd);have:=(il.own b J).2.2
   grind
  .refine ⟨sh.os.trans e9.os,sh.tape.trans e9.tape,sh.output.trans e9.output,gd,λb J ho=>(sh.low b J).trans (e9.keep b J ho fU),e9.own,rfl,rfl,?_⟩;intro i hi hl;obtain ⟨g1,g2⟩:=e9.go i hi hl;exact ⟨g1,g2⟩
 cases e with
 |normal=>exact key jj
 |ret=>exact key jj
 |exit id=>obtain ⟨_,_,h,_⟩:=jj;exact h.elim
 |goto id=>obtain ⟨_,_,h,_⟩:=jj;exact h.elim
 |panic c=>obtain ⟨_,_,h,_⟩:=jj;exact h.elim
 |outgrown=>obtain ⟨_,_,h,_⟩:=jj;exact h.elim
def ACall.mono {f} {fl} {args} {h} {K K'} (hc:ACall P f fl args h K) (hk:∀r h,K r h->K' r h):ACall P f fl args h K':=
 ⟨hc.1,λE w vs J hr=>(hc.2 E w vs J hr).mono λe w' ⟨v,E',r,h',h1,h2,h3⟩=>⟨v,E',r,h',h1,fU,h3⟩⟩
end
end Go.Aw
