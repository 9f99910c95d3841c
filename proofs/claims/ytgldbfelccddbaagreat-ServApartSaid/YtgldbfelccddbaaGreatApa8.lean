/- Lemmas. -/
import Derived.Test.YtgldbfelccddbaaGreatApa7
set_option linter.all false
set_option maxRecDepth 100000
set_option maxHeartbeats 2000000
namespace Go.Proofs.YtgldbfelccddbaaGreat
open Go Go.RowKit
def disable w:(callFunc 477 #[]).run Tryz.prog w= .ok (.value (.tuple #[])) w:=run_call_mark0 Tryz.func477 fX fX fX .disable fX w
def enable w:(callFunc 479 #[]).run Tryz.prog w= .ok (.value (.tuple #[])) w:=run_call_mark0 Tryz.func479 fX fX fX .enable fX w
def acquire a w:(callFunc 480 #[.pointer (some a)]).run Tryz.prog w= .ok (.value (.tuple #[])) w:=run_call_marked Tryz.func480 fX fX fX .acquire fX a w
def releaseMerge a w:(callFunc 482 #[.pointer (some a)]).run Tryz.prog w= .ok (.value (.tuple #[])) w:=run_call_marked Tryz.func482 fX fX fX .releaseMerge fX a w
def zlq a x u w (hc:w.cell? a=some x) (J:w.frozen? a=false):
  CallsD Tryz.prog 468 #[.pointer (some a),.bool true] u w λe u' w'=>u'=u/\(e= .returned (.tuple #[])/\w'=w.drew.setCell a (.int .u32 1)):=by
 have qo:w.drew.cell? a=some x:=lh;have Bn:w.drew.frozen? a=false:=lh;have gf:=run_call_store (P:=Tryz.prog) Tryz.func475 fX fX fX fX (k:= .u32) (y:=1) qo Bn
 go_enter_d Tryz.func468,Tryz.ntmps468
 go_wp2
 go_region_calls
 all_goals (go_end0;exact ⟨rfl,rfl⟩)
def zoX a w (hc:w.cell? a=some (.int .i32 1)) (J:w.frozen? a=false):
  Calls Tryz.prog 474 #[.pointer (some a)] w λe w'=>e= .returned (.tuple #[])/\w'=w.setCell a (.int .i32 0):=by
 have hd:=disable;have he:=enable;have hr:=releaseMerge;have rk:=run_call_add (P:=Tryz.prog) Tryz.func483 fX fX fX .i32 fX (y:= -1) (s:=0) hc J (by simp [go_sem];rfl);have Bo:=run_convert_to_unsafe (P:=Tryz.prog) (src:=600) (dst:=375) Tryz.underlying600 Tryz.underlying375 fX hc
 go_enter Tryz.func474,Tryz.ntmps474
 go_wp2
 go_end0
 grind
def zku a u w (hc:w.cell? a=some (.int .i32 1)) (J:w.frozen? a=false):
  CallsD Tryz.prog 467 #[.pointer (some a)] u w λe u' w'=>u'=u/\(e= .returned (.tuple #[])/\w'=w.setCell a (.int .i32 0)):=by
 go_enter_d Tryz.func467,Tryz.ntmps467
 go_wp2_with (go_at_call 474;refine (zoX a _ lh lh).mono ?_;rintro e w' ⟨rfl,rfl⟩)
 go_end0
 grind
def zul a w (hc:w.cell? a=some (.int .i32 0)) (J:w.frozen? a=false):
  Calls Tryz.prog 473 #[.pointer (some a)] w λe w'=>e= .returned (.tuple #[])/\w'=w.setCell a (.int .i32 1):=by
 have hd:=disable;have he:=enable;have ha:=acquire;have Da:=run_call_cas_hit (P:=Tryz.prog) Tryz.func478 fX fX fX .i32 fX (y:=1) hc J;have qo:(w.setCell a (.int .i32 1)).cell? a=some (.int .i32 1):=cn w a _ hc;have Bo:=run_convert_to_unsafe (P:=Tryz.prog) (src:=600) (dst:=375) Tryz.underlying600 Tryz.underlying375 fX qo
 go_enter Tryz.func473,Tryz.ntmps473
 go_wp2
 first|go_end0|(simp only [Exit.inBlock,Exit.then];refine bodyPost_ret (results_none rfl _ _ _) rfl ?_)|refine bodyPost_ret (results_none rfl _ _ _) rfl ?_
 grind
def zw0 a w (hc:w.cell? a=some (.int .i32 0)) (J:w.frozen? a=false):
  Calls Tryz.prog 466 #[.pointer (some a)] w λe w'=>e= .returned (.tuple #[])/\w'=w.setCell a (.int .i32 1):=by
 go_enter Tryz.func466,Tryz.ntmps466
 go_wp2_with (go_at_call 473;refine (zul a _ lh lh).mono ?_;rintro e w' ⟨rfl,rfl⟩)
 go_end0
 grind
def zoY a x w (hc:w.cell? a=some (.int .u32 x)):
  Calls Tryz.prog 455 #[.pointer (some a)] w λe w'=>e= .returned (.bool (x !=0))/\w'=w:=by
 have J:=run_call_load (P:=Tryz.prog) Tryz.func465 fX fX fX .u32 fX hc
 go_enter Tryz.func455,Tryz.ntmps455
 go_wp2
 go_ret
 simp_all
set_option maxHeartbeats 1600000 in
def zzV (b off:Nat) (p:Value) (w:World) (R:World->Prop)
  (h0:w.cell? ⟨b,off,none⟩=some (.int .u32 0)) (h1:w.cell? ⟨b,off+1,none⟩=some (.int .i32 0)) (f0:w.frozen? ⟨b,off,none⟩=false) (f1:w.frozen? ⟨b,off+1,none⟩=false)
  (hf:Calls Tryz.prog 431 #[p] (w.setCell ⟨b,off+1,none⟩ (.int .i32 1)) λe w2=>e= .returned (.tuple #[])/\R w2)
  (hR:∀w2,R w2->w2.cell? ⟨b,off,none⟩=some (.int .u32 0)/\w2.cell? ⟨b,off+1,none⟩=some (.int .i32 1)/\w2.frozen? ⟨b,off,none⟩=false/\w2.frozen? ⟨b,off+1,none⟩=false):
  Calls Tryz.prog 456 #[.pointer (some ⟨b,off,none⟩),.func (.func 431) #[p] #[]] w λe w'=>e= .returned (.tuple #[])/\
   ∃w2,R w2/\w'=(w2.drew.setCell ⟨b,off,none⟩ (.int .u32 1)).setCell ⟨b,off+1,none⟩ (.int .i32 0):=by
 refine' Hi;have ru:(w.setCell ⟨b,off+1,none⟩ (.int .i32 1)).cell? ⟨b,off,none⟩=some (.int .u32 0):=(aR _ ⟨b,off+1,none⟩ ⟨b,off,none⟩ _ fZ).trans h0
 go_enter_defers Tryz.func456,Tryz.ntmps456
 go_wp2_with (first
  |(go_at_call 466;refine (zw0 ⟨b,off+1,none⟩ _ lh lh).mono ?_;rintro e w' ⟨rfl,rfl⟩)
  |(go_at_call 455;refine (zoY ⟨b,off,none⟩ 0 _ ru).mono ?_;rintro e w' ⟨rfl,rfl⟩)
  |(go_at_call 431;refine hf.mono ?_;rintro e w2 ⟨rfl,J⟩))
 obtain ⟨g0,g1,g2,g3⟩:=hR w2 J;refine dw (f:=468) (args:= #[.pointer (some ⟨b,off,none⟩),.bool true]) fZ mU ?_;refine (zlq ⟨b,off,none⟩ (.int .u32 0) .returning _ g0 g2).mono ?_;rintro e u' w'' ⟨rfl,rfl,rfl⟩;refine dw (f:=467) (args:= #[.pointer (some ⟨b,off+1,none⟩)]) (by simp [settle]) mU ?_;refine (zku ⟨b,off+1,none⟩ _ _ ?_ (by simp [g3])).mono ?_
 .refine (aR _ ⟨b,off,none⟩ ⟨b,off+1,none⟩ _ fZ).trans ?_;rw [World.cell?_drew];exact g1
 rintro e u' w'' ⟨rfl,rfl,rfl⟩;simp only [Leaves,settle];exact ⟨.tuple #[],by simp [results,Tryz.results456],rfl,w2,J,rfl⟩
set_option maxHeartbeats 1600000 in
def do_first (b off:Nat) (p:Value) (w:World) (R:World->Prop)
  (h0:w.cell? ⟨b,off,none⟩=some (.int .u32 0)) (h1:w.cell? ⟨b,off+1,none⟩=some (.int .i32 0)) (f0:w.frozen? ⟨b,off,none⟩=false) (f1:w.frozen? ⟨b,off+1,none⟩=false)
  (J:Calls Tryz.prog 431 #[p] (w.setCell ⟨b,off+1,none⟩ (.int .i32 1)) λe w2=>e= .returned (.tuple #[])/\R w2)
  (hR:∀w2,R w2->w2.cell? ⟨b,off,none⟩=some (.int .u32 0)/\w2.cell? ⟨b,off+1,none⟩=some (.int .i32 1)/\w2.frozen? ⟨b,off,none⟩=false/\w2.frozen? ⟨b,off+1,none⟩=false):
  Calls Tryz.prog 430 #[.pointer (some ⟨b,off,none⟩),.func (.func 431) #[p] #[]] w λe w'=>e= .returned (.tuple #[])/\
   ∃w2,R w2/\w'=(w2.drew.setCell ⟨b,off,none⟩ (.int .u32 1)).setCell ⟨b,off+1,none⟩ (.int .i32 0):=by
 refine' Hi
 go_enter Tryz.func430,Tryz.ntmps430
 go_wp2_with (first
  |(go_at_call 455;refine (zoY ⟨b,off,none⟩ 0 _ h0).mono ?_;rintro e w' ⟨rfl,rfl⟩)
  |(go_at_call 456;refine (zzV b off p _ R h0 h1 f0 f1 J hR).mono ?_;rintro e w' ⟨rfl,w2,hr,rfl⟩))
 go_end0
 exact ⟨rfl,w2,hr,rfl⟩
end Go.Proofs.YtgldbfelccddbaaGreat
namespace Go.Aw
open Go Go.Proofs
section
variable {P : Program} {w w' : World} {E E' : Env} {h h' : AHeap}
def zkv:∀ (h:AHeap) (i:Nat) (a b:AObj),hset (hset h i a) i b=hset h i b
  | [],_,_,_=>rfl
  | (k,o)::r,i,a,b=>by
    by_cases J:k=i
    · simp [hset,J]
    · simp [hset,J,zkv r]
def zbr {h} {i j} {o} (hi:(hget h i).isSome):(hget (hset h i o) j).isSome=(hget h j).isSome:=by
 by_cases J:j=i
 .subst J;obtain ⟨x,hx⟩:=bE.1 hi;rw [zi hx,hx];rfl
 .rw [zS J]
def poke (J:SatH E h w) {i o b} {cs} (hi:hget h i=some (.var cs)) (hb:E.O i=some b) {x} {v} (hr:Rep w E h x v):
  Chg E h w E (hset h i (.var (cs.set o x))) (w.setCell ⟨b,o,none⟩ v) i/\SatH E (hset h i (.var (cs.set o x))) (w.setCell ⟨b,o,none⟩ v):=by have ec:=J.heap i _ hi;refine' Hs;obtain ⟨b',c,T,fz,g1,g2,g3,g4⟩:=ec;rw [hb] at g1;cases g1;rw [zfY g2];have ch:=zqh J hi (cs':=cs.set o x) fZ hb (.cells (c.setIfInBounds o v) T fz);refine ⟨ch,ch.satH J (λob ec=>?_)⟩;rw [zi hi] at ec;cases ec;simp only [RepObj];refine ⟨b,_,T,fz,hb,zfu (aI.1 g2).1,?_,fU⟩;rw [fy];exact ch.reps (g3.set hr)
def zjP {i} {o} (hi:(hget h i).isSome) {b} :Own E (hset h i o) b↔Own E h b:=by
 unfold Own;constructor
 .rintro ⟨j,h1,h2⟩;exact ⟨j,by rwa [zbr hi] at h1,h2⟩
 .rintro ⟨j,h1,h2⟩;exact ⟨j,by rwa [zbr hi],h2⟩
end
section
variable {h : AHeap}
def zCC {fl i} {cs cs2} (hi:hget h i=some (.var cs)) (c0:cs[0]?=some (.d (.int .u32 0))) (c1:cs[1]?=some (.d (.int .i32 0)))
  (d0:cs2[0]?=some (.d (.int .u32 0))) (d1:cs2[1]?=some (.d (.int .i32 1)))
  (hf:ACallAt Tryz.prog fl 431 [.vp i 0] (hset h i (.var (cs.set 1 (.d (.int .i32 1))))) (λr h'=>r= .tup []/\h'=hset h i (.var cs2))):
  ACallAt Tryz.prog fl 430 [.vp i 0,.fn (.func 431) [.vp i 0] []] h (λr h'=>r= .tup []/\h'=hset h i (.var ((cs2.set 0 (.d (.int .u32 1))).set 1 (.d (.int .i32 0))))):=by
 refine ⟨zcR Tryz.func430 fX rfl,λE w vs hs hr=>?_⟩;simp only [Reps] at hr;obtain ⟨v0,r0,e0,q0,v1,r1,rfl,q1,rfl⟩:=hr;simp only [Rep,Reps] at q1;obtain ⟨fa,fb,rfl,⟨u,r2,e2,q2,rfl⟩,e3⟩:=q1;have px:=q0;simp only [Rep] at q0 q2;obtain ⟨b,cs',kA,J,rfl⟩:=q0;obtain ⟨b',Db,Dc,ib,rfl⟩:=q2;rw [J] at ib;cases ib;have Bp:fa= #[.pointer (some ⟨b,0,none⟩)]:=fU;have Bq:fb= #[]:=fU;subst Bp Bq;have iY:vs= #[.pointer (some ⟨b,0,none⟩),.func (.func 431) #[.pointer (some ⟨b,0,none⟩)] #[]]:=fU;subst iY
 have look:∀ {E:Env} {h:AHeap} {w:World} {xs:List AV},SatH E h w->hget h i=some (.var xs)->E.O i=some b->∀ (o:Nat) (k:IntKind) (n:Int),xs[o]?=some (.d (.int k n))->w.cell? ⟨b,o,none⟩=some (.int k n)/\w.frozen? ⟨b,o,none⟩=false:=by
  intro E h w xs hs hi J o k n ho;have ec:=hs.heap i _ hi;refine' Hs;obtain ⟨b',c,T,fz,g1,g2,g3,g4⟩:=ec;rw [J] at g1;cases g1;obtain ⟨v,h1,h2⟩:=Reps.get g3 ho;simp only [Rep,RepD] at h2;subst h2;have mc:c[o]?=some (.int k n):=fU;have a7:=(aI.1 mc).1;refine ⟨by rw [zI g2];grind,?_⟩;rw [zai g2];have:=g4 o a7
  grind
 obtain ⟨a0,z0⟩:=look hs hi J 0 _ _ c0;obtain ⟨a1,z1⟩:=look hs hi J 1 _ _ c1;obtain ⟨lV,a8⟩:=poke hs hi J (o:=1) (x:= .d (.int .i32 1)) (v:= .int .i32 1) iI;have pf:(hget h i).isSome:=fU;have nf:Rep (w.setCell ⟨b,1,none⟩ (.int .i32 1)) E (hset h i (.var (cs.set 1 (.d (.int .i32 1))))) (.vp i 0) (.pointer (some ⟨b,0,none⟩)):=lV.rep px;have Br:=hf.2 E _ #[.pointer (some ⟨b,0,none⟩)] a8 wK
 let R:World->Prop:=λw2=>∃E2,SatH E2 (hset h i (.var cs2)) w2/\EvoC fl E (hset h i (.var (cs.set 1 (.d (.int .i32 1))))) (w.setCell ⟨b,1,none⟩ (.int .i32 1)) E2 (hset h i (.var cs2)) w2/\
  (∀x y,Rep (w.setCell ⟨b,1,none⟩ (.int .i32 1)) E (hset h i (.var (cs.set 1 (.d (.int .i32 1))))) x y->Rep w2 E2 (hset h i (.var cs2)) x y)
 have hO:∀ {w2 E2},(∀x y,Rep (w.setCell ⟨b,1,none⟩ (.int .i32 1)) E (hset h i (.var (cs.set 1 (.d (.int .i32 1))))) x y->Rep w2 E2 (hset h i (.var cs2)) x y)->E2.O i=some b:=by
  intro w2 E2 lE;have:=lE _ _ nf;simp only [Rep] at this
  grind
 have sA:hget (hset h i (.var cs2)) i=some (.var cs2):=zi hi;refine (Go.Proofs.YtgldbfelccddbaaGreat.do_first b 0 (.pointer (some ⟨b,0,none⟩)) w R a0 a1 z0 z1 (Br.mono ?_) ?_).mono ?_
 .rintro e w2 ⟨v,E2,r,h2,rfl,⟨rfl,rfl⟩,g1,g2,g3,g4⟩;simp only [Rep,Reps] at g2;obtain ⟨vs,rfl,g5⟩:=g2;have:vs= #[]:=fU
  grind
 .rintro w2 ⟨E2,g1,g2,g3⟩;obtain ⟨x0,y0⟩:=look g1 sA (hO g3) 0 _ _ d0;obtain ⟨x1,y1⟩:=look g1 sA (hO g3) 1 _ _ d1
  grind
 .rintro e w3 ⟨rfl,w2,⟨E2,g1,g2,g3⟩,rfl⟩;have b3:=hO g3;have Bs:SatH E2 (hset h i (.var cs2)) w2.drew:=g1.refit ⟨rfl,rfl,rfl,rfl,λ_ _=>rfl,λ_ _ h _ _=>h⟩ (base:=0) rfl rfl fU (λb J=>(g1.own b J).2) g1.mlt g1.nlt;obtain ⟨mu,eg⟩:=poke Bs sA b3 (o:=0) (x:= .d (.int .u32 1)) (v:= .int .u32 1) iI;have Bt:hget (hset (hset h i (.var cs2)) i (.var (cs2.set 0 (.d (.int .u32 1))))) i=some (.var (cs2.set 0 (.d (.int .u32 1)))):=zi sA;obtain ⟨nc,kB⟩:=poke eg Bt b3 (o:=1) (x:= .d (.int .i32 0)) (v:= .int .i32 0) iI
  have Bu:∀x y,Rep w2 E2 (hset h i (.var cs2)) x y->Rep _ E2 _ x y:=λx y jI=>
   nc.rep (mu.rep (Rep.step (W:=w2) (W':=w2.drew) fU (λ_ _ _=>rfl) x y (λj _=>GoesOn.refl E2 _ j) jI))
  have Df:(hget (hset h i (.var cs2)) i).isSome:=fU;have Dg:(hget (hset (hset h i (.var cs2)) i (.var (cs2.set 0 (.d (.int .u32 1))))) i).isSome:=fU;have e4:hset (hset (hset h i (.var cs2)) i (.var (cs2.set 0 (.d (.int .u32 1))))) i (.var ((cs2.set 0 (.d (.int .u32 1))).set 1 (.d (.int .i32 0))))=hset h i (.var ((cs2.set 0 (.d (.int .u32 1))).set 1 (.d (.int .i32 0)))):=by rw [zkv,zkv]
  refine ⟨.tuple #[],E2,.tup [],_,rfl,⟨rfl,rfl⟩,e4 ▸ kB,oM,?_,λx y jI=>e4 ▸ Bu x y (g3 x y (lV.rep jI))⟩
  have ik:∀b',b'<w.heap.size->¬Own E h b'->w2.heap[b']?=w.heap[b']?:=λb' ib jo=>
   (g2.keep b' (by simpa using ib) (λho=>jo ((zjP pf).1 ho))).trans (lV.blk b' ib (λ⟨h1,h2⟩=>jo ⟨i,h1,h2⟩))
  have gd:w.heap.size<=w2.heap.size:=aD lV.size g2.size;refine ⟨?_,?_,?_,?_,λb' ib jo=>?_,λb' ho=>?_,g2.m,g2.n,λj hj oq=>?_⟩
  .exact nc.os.trans (mu.os.trans (g2.os.trans lV.os))
  .exact nc.tape.trans (mu.tape.trans (g2.tape.trans lV.tape))
  .exact nc.output.trans (mu.output.trans (g2.output.trans lV.output))
  .simp_all
  .have b5:¬E2.O i=some b':=λe=>by rw [b3] at e;cases e;exact jo ⟨i,pf,J⟩
   have h1:b'<w2.drew.heap.size:=aE ib gd;rw [nc.blk b' ig fU,mu.blk b' h1 fU];exact ik b' ib jo
  .rw [zjP pf] at ho;have iL:Own E2 (hset h i (.var cs2)) b':=(zjP pf).2 ho;rcases g2.own b' iL with h1|h1
   .exact .inl ((zjP pf).1 h1)
   .simp_all
  .rw [zbr pf] at oq;have pW:(hget (hset h i (.var cs2)) j).isSome:=by rwa [zbr pf]
   obtain ⟨p1,p2⟩:=g2.go j hj pW;refine ⟨oq,?_⟩;have p3:=(lV.goesOn j).trans p2;have p4:=p3.trans ((mu.goesOn j).trans (nc.goesOn j))
   grind
end
open Go Go.Proofs
def bitT (c:Int):Int:=ibits .xor .u32 (ishr .u32 c 1) (IntKind.u32.wrap (ibits .and .u32 c 1*2197175160))
def bitsT:Nat->Int->Int
 |0,c=>c
 |n+1,c=>bitT (bitsT n c)
def tabF (j:Nat):Int:=bitsT 8 (IntKind.u32.wrap j)
def tblF (i:Nat):List D:=(List.range 256).map λj=>D.int .u32 (if j<i then tabF j else 0)
def zsV i:(tblF i).length=256:=by simp [tblF]
def zzU i (hi:i<256):(tblF i).set i (.int .u32 (tabF i))=tblF (i+1):=by
 apply dk;intro j;rw [List.getElem?_set];unfold tblF
 grind
def ze1:∀ (l:List D),AV.leL (l.map AV.d) (l.map AV.d)
 | []=>by simp [AV.leL]
 |x::l=>by simp only [au,AV.leL,AV.le,bt];exact ze1 l
def zuk x y z:ACall Tryz.prog 431 1 [.vp 0 0] [(0,.var (.d x:: .d y:: .d z::(tblF 0).map AV.d))] (λr h'=>r= .tup []/\h'= [(0,.var (.d x:: .d y:: .d z::(tblF 256).map AV.d))]):=by
 refine zbj Tryz.func431 rfl (zcR Tryz.func431 fX rfl) Tryz.ntmps431 fZ (λbase=>?_);refine' Cy;refine zbi ?_;refine zk (λi: {i:Nat // i<=256} =>⟨[(0,true,.vp 0 0),(4,true,.d (.int .i64 i.1))],[(0,.var (.d x:: .d y:: .d z::(tblF i.1).map AV.d))],some []⟩) (λi=>256 - i.1) ⟨0,fT⟩ (by simp only [AS.le,leT,leH,AV.le,AV.leL,AObj.le,inH,idsT,idsH,AV.ids,AV.idsL,AObj.ids,lk,hget,go_sem,simprocAttr]<;>simp [ze1,zdi,inH]) (λi=>?_);obtain ⟨i,hi⟩:=i;refine' Cy;refine zaC (λK hK=>?_);refine' EL
 .refine zfU ?_;simp only [go_sem,simprocAttr];refine hK _ ?_;clear hK K;have iX:i<256:=fU;refine zaC (λK hK=>?_);refine zbi ?_;refine' Cy;refine' Cy;refine zaC (λK2 lx=>?_);refine' Cy;refine zbi ?_;refine zk (λk: {k:Nat // k<=8} =>⟨[(0,true,.vp 0 0),(4,true,.d (.int .i64 i)),(2,true,.d (.int .i64 i)),(3,true,.d (.int .u32 (bitsT k.1 (IntKind.u32.wrap i)))),(9,true,.d (.int .i64 k.1))],[(0,.var (.d x:: .d y:: .d z::(tblF i).map AV.d))],some []⟩) (λk=>8 - k.1) ⟨0,fT⟩ (by simp only [AS.le,leT,leH,AV.le,AV.leL,AObj.le,inH,idsT,idsH,AV.ids,AV.idsL,AObj.ids,lk,hget,go_sem,simprocAttr]<;>simp [ze1,zdi,inH,bitsT]) (λk=>?_);obtain ⟨k,J⟩:=k;refine' Cy;refine zaC (λK3 mm=>?_);refine' EL
  .refine zfU ?_;simp only [go_sem,simprocAttr];refine mm _ ?_;clear mm K3;have mn:k<8:=fU;refine zaC (λK hK=>?_);refine zbi ?_;refine zaZ noTab (zb _) ?_;simp only [go_sem,simprocAttr];refine hK _ ?_;clear hK K;refine zaZ noTab (zb _) ?_;simp only [go_sem,simprocAttr];have hw:IntKind.i64.wrap ((k:Int)+1)=((k+1:Nat):Int):=iM;refine ⟨⟨k+1,fT⟩,?_,fU⟩;refine' GG;simp [ze1,zdi,inH,bitsT,bitT]
  .refine' G9;have sI:k=8:=fU;subst sI;refine zaZ noTab (zb _) ?_;simp only [go_sem,aw,simprocAttr];refine ⟨⟨fT,fT⟩,by simp [zsV];omega,?_⟩
   have hset:(AV.d x::AV.d y::AV.d z::(tblF i).map AV.d).set (3+i*1) (.d (.int .u32 (bitsT 8 (IntKind.u32.wrap i))))=AV.d x::AV.d y::AV.d z::(tblF (i+1)).map AV.d:=by
    rw [show 3+i*1=i+1+1+1 by omega,cI,cI,cI,<-cK];have:=zzU i iX;unfold tabF at this
    grind
   rw [hset];refine hK _ ?_;refine' Er;refine ⟨⟨i+1,fT⟩,?_,fU⟩;refine' GG;simp [ze1,zdi,inH]
 .refine zfV ?_;simp only [go_sem,simprocAttr,Tryz.results431]
  grind
def byteS (c:Int) (b:UInt8):Int:=ibits .xor .u32 (tabF (ibits .xor .u8 (IntKind.u8.wrap c) b.toNat).toNat) (ishr .u32 c 8)
def sumS (c:Int) (l:List UInt8):Int:=l.foldl byteS c
def notS (c:Int):Int:=ibits .xor .u32 (if IntKind.u32.signed then -1 else IntKind.u32.max) c
def onceC (d m z:D) (i:Nat):List AV:= .d d:: .d m:: .d z::(tblF i).map AV.d
def do_ok:ACallAt Tryz.prog 1 430 [.vp 0 0,.fn (.func 431) [.vp 0 0] []] [(0,.var (onceC (.int .u32 0) (.int .i32 0) (.int .u32 0) 0))] (λr h'=>r= .tup []/\h'= [(0,.var (onceC (.int .u32 1) (.int .i32 0) (.int .u32 0) 256))]):=by
 refine zCC (cs:=onceC (.int .u32 0) (.int .i32 0) (.int .u32 0) 0) (cs2:=onceC (.int .u32 0) (.int .i32 1) (.int .u32 0) 256) rfl rfl rfl rfl rfl ?_;refine (zuk _ _ _).whole (λi hi=>?_) fU ?_
 .by_cases h:i=0
  .omega
  .simp [hget,bx h] at hi
 .rintro r h' ⟨rfl,rfl⟩ i hi;by_cases h:i=0
  .subst h;rfl
  .simp [hget,bx h] at hi
def zCD (n:Int) (h0:0<=n) (h1:n<256) d m z:(onceC d m z 256).getD (3+n.toNat*1) .any= .d (.int .u32 (tabF n.toNat)):=by
 have:n.toNat<256:=fT;unfold onceC;rw [show 3+n.toNat*1=n.toNat+1+1+1 by omega];simp only [eB];rw [aN,cT];unfold tblF
 grind
def zCE x y:0<=ibits .xor .u8 x y/\ibits .xor .u8 x y<256:=by unfold ibits;rw [eL];omega
abbrev Mst (c:Int) (l:List UInt8):= { i:Nat // i<=l.length }
def zCF c l (hl:l.length<=9223372036854775807):ACall Tryz.prog 395 1 [.vp 0 0,.d (.int .u32 c),.d (.str l)] [(0,.var (onceC (.int .u32 0) (.int .i32 0) (.int .u32 0) 0))] (λr h'=>r= .d (.int .u32 (sumS c l))/\(hget h' 0).isSome):=by
 refine zbj Tryz.func395 rfl (zcR Tryz.func395 fX rfl) Tryz.ntmps395 fZ (λbase=>?_);refine' Cy;refine zj noTab (zb _) (λK hK=>?_);simp only [go_sem,aU,simprocAttr];refine do_ok.mono ?_;refine' Cp;refine hK _ ?_;clear hK K;refine zaC (λK2 lx=>?_);refine zj noTab (zb _) (λK hK=>?_);simp only [go_sem,simprocAttr];refine ⟨nB,hK _ ?_⟩;clear hK;refine zbi ?_;refine zk (λi:Mst c l=>⟨[(0,true,.vp 0 0),(1,true,.d (.int .u32 (sumS c (l.take i.1)))),(16,true,.osl 1 1 l.length 0 l.length),(17,true,.d (.int .i64 l.length)),(18,true,.d (.int .i64 i.1))],[(1,.arr 1 (zh l)),(0,.var (onceC (.int .u32 1) (.int .i32 0) (.int .u32 0) 256))],some []⟩) (λi=>l.length - i.1) ⟨0,fU⟩ (by simp only [AS.le,leT,leH,AV.le,AObj.le,inH,idsT,idsH,AV.ids,AObj.ids,lk,hget,go_sem,simprocAttr]<;>simp [onceC,ze1,zdi,inH,sumS,AV.leL,AV.le,AV.idsL,AV.ids]) (λi=>?_);obtain ⟨i,hi⟩:=i;refine' Cy;refine zaC (λK3 mm=>?_);refine' EL
 .refine zfU ?_;simp only [go_sem,simprocAttr];refine mm _ ?_;clear mm K3;have iX:i<l.length:=fU;obtain ⟨b,hb⟩:∃b,l[i]?=some b:=⟨l[i],fU⟩
  have J:(zh l).getD i []= [.int .u8 b.toNat]:=by simp [zh,aN,hb,zgE]
  have jw:(zh l).length=l.length:=nB;refine zaC (λK4 oo=>?_);refine zbi ?_;refine zj noTab (zb _) (λK hK=>?_);simp only [go_sem,aj,aw,simprocAttr,J,jw,bL];refine ⟨⟨fT,fT⟩,iX,hK _ ?_⟩;clear hK;obtain ⟨ji,gE⟩:=zCE (IntKind.u8.wrap (sumS c (l.take i))) b.toNat;have ua:=zCD (ibits .xor .u8 (IntKind.u8.wrap (sumS c (l.take i))) b.toNat) ji gE (.int .u32 1) (.int .i32 0) (.int .u32 0);have Bv:(onceC (.int .u32 1) (.int .i32 0) (.int .u32 0) 256).length=259:=by simp [onceC,zsV]
  refine zaZ noTab (zb _) ?_;simp only [go_sem,simprocAttr,ua,Bv];refine ⟨⟨ji,gE⟩,fT,oo _ ?_⟩;clear oo;refine' Er
  have hs:ibits .xor .u32 (tabF (ibits .xor .u8 (IntKind.u8.wrap (sumS c (l.take i))) b.toNat).toNat) (ishr .u32 (sumS c (l.take i)) 8)=sumS c (l.take (i+1)):=by rw [dr,hb];simp [sumS,byteS]
  refine ⟨⟨i+1,fT⟩,?_,fU⟩;rw [hw,hs];refine' HO;simp [onceC,ze1,zdi,inH,AV.leL,AV.le,AV.idsL,AV.ids]
 .refine' G9;have iX:i=l.length:=fU;subst iX;refine' Cy;refine zhu ?_;simp only [go_sem,simprocAttr,Tryz.results395]
def zlS c l (J:l.length<=9223372036854775807):ACall Tryz.prog 356 0 [.d (.int .u32 c),.d (.str l)] [] (λr _=>r= .d (.int .u32 (notS (sumS (notS c) l)))):=by
 refine zbj Tryz.func356 rfl (zcR Tryz.func356 fX rfl) Tryz.ntmps356 fZ (λbase=>?_);refine' Cy;refine' Cy;refine zj noTab (zb _) (λK hK=>?_);simp only [go_sem,simprocAttr];refine ACallAt.mono (h:= [(0,.var (onceC (.int .u32 0) (.int .i32 0) (.int .u32 0) 0))]) (K:=λr h'=>r= .d (.int .u32 (sumS (notS c) l))/\(hget h' 0).isSome) ((zCF (notS c) l J).whole (λi hi=>?_) fU ?_) ?_
 .by_cases h:i=0
  .omega
  .simp [hget,bx h] at hi
 .rintro r h' ⟨rfl,hk⟩ i hi;by_cases h:i=0
  .grind
  .simp [hget,bx h] at hi
 rintro r h' ⟨rfl,hk⟩;simp only [go_sem,simprocAttr];refine hK _ ?_;clear hK K;refine zhu ?_;simp only [go_sem,simprocAttr,Tryz.results356];rfl
def sumOf (c:Int) (l:List UInt8):Int:=notS (sumS (notS c) l)
def tabM:Tab:=λf args=>
 if f=356 then (match args with
  | [.d (.int .u32 c),.d (.str l)]=>some (l.length<=9223372036854775807,.d (.int .u32 (sumOf c l)))
  |_=>none)
 else none
@[go_sem] def tabM30 c l:tabM 356 [.d (.int .u32 c),.d (.str l)]=some (l.length<=9223372036854775807,.d (.int .u32 (sumOf c l))):=rfl
def zCG:TabOk Tryz.prog tabM:=⟨λf args pre r h hp=>by
 unfold tabM at h;split at h
 .rename_i J;subst J;split at h
  .cases h;exact ⟨rfl,zlS _ _ hp⟩
  .cases h
 .cases h⟩
def zzW l (J:l.length<=9223372036854775807):ACall Tryz.prog 307 0 [.d (.str l)] [] (λr _=>r= .d (.int .u32 (sumOf 0 l))):=by refine zbj Tryz.func307 rfl (zcR Tryz.func307 fX rfl) Tryz.ntmps307 fZ (λbase=>?_);refine' Cy;refine zj tabM zCG (λK hK=>?_);simp only [go_sem,simprocAttr];refine ⟨J,hK _ ?_⟩;clear hK K;refine zhu ?_;simp only [go_sem,simprocAttr,Tryz.results307]
def zdy (c:Int) (j:Nat):Int:=IntKind.u8.wrap (ishr .u32 c (IntKind.i64.wrap (24 - IntKind.i64.wrap (8*(j:Int)))))
def bcell (c:Int) (i j:Nat):AV:= .d (.int .u8 (if j<i then zdy c j else 0))
def zkw (c:Int) (i:Nat):List AV:= [bcell c i 0,bcell c i 1,bcell c i 2,bcell c i 3]
def zgM (c:Int):List UInt8:= [UInt8.ofNat (zdy c 0).toNat,UInt8.ofNat (zdy c 1).toNat,UInt8.ofNat (zdy c 2).toNat,UInt8.ofNat (zdy c 3).toNat]
def zqP c:ACall Tryz.prog 306 0 [.d (.int .u32 c)] [] (λr _=>r= .d (.str (zgM c))):=by
 refine zbj Tryz.func306 rfl (zcR Tryz.func306 fX rfl) Tryz.ntmps306 fZ (λbase=>?_);refine' Cy;refine' Cy;refine zaC (λK2 lx=>?_);refine' Cy;refine zbi ?_;refine zk (λi: {i:Nat // i<=4} =>⟨[(0,true,.d (.int .u32 c)),(3,true,.vp 0 0),(5,true,.d (.int .i64 i.1))],[(0,.var (zkw c i.1))],some []⟩) (λi=>4 - i.1) ⟨0,fT⟩ (by simp only [AS.le,leT,leH,AV.le,AV.leL,AObj.le,inH,idsT,idsH,AV.ids,AObj.ids,lk,hget,go_sem,simprocAttr]<;>simp [zkw,bcell,AV.le,AV.idsL,AV.ids,inH]) (λi=>?_);obtain ⟨i,hi⟩:=i;refine' Cy;refine zaC (λJ mm=>?_);refine' EL
 .refine zfU ?_;simp only [go_sem,simprocAttr];refine mm _ ?_;clear mm J;have iX:i<4:=fU;refine zaC (λK4 oo=>?_);refine zbi ?_;refine' Cy;refine zaZ noTab (zb _) ?_;simp only [go_sem,aw,simprocAttr]
  have hset:(zkw c i).set (i*1) (.d (.int .u8 (zdy c i)))=zkw c (i+1):=by have:i=0\/i=1\/i=2\/i=3:=fT;rcases this with rfl|rfl|rfl|rfl<;>rfl
  unfold zdy at hset;rw [hset];refine ⟨by simp only [bz];omega,⟨fT,fT⟩,by simp [zkw];omega,oo _ ?_⟩;refine' Er;refine ⟨⟨i+1,fT⟩,?_,fU⟩;rw [hw];refine' HO;simp [zkw,bcell,AV.leL,AV.le,AV.idsL,AV.ids,inH]
 .refine' G9;have iX:i=4:=fU;subst iX;have uL:zkw c 4= [.d (.int .u8 (zdy c 0)),.d (.int .u8 (zdy c 1)),.d (.int .u8 (zdy c 2)),.d (.int .u8 (zdy c 3))]:=rfl;rw [uL];refine zj noTab (zb _) (λK hK=>?_);simp only [go_sem,aj,simprocAttr];refine ⟨rfl,hK _ ?_⟩;clear hK;refine zhu ?_;simp only [go_sem,simprocAttr,Tryz.results306];rfl
@[go_sem] noncomputable def zgN:Ent Tryz.prog 356:= .ofL (consL (intT .u32) (consL strT nilL)) (λ(c,l,_)=>l.length<=9223372036854775807) (λ(c,l,_)=> .d (.int .u32 (notS (sumS (notS c) l)))) (λ(c,l,_) hp=>⟨rfl,zlS c l hp⟩)
@[go_sem] noncomputable def zeK:Ent Tryz.prog 307:= .ofL (consL strT nilL) (λ(l,_)=>l.length<=9223372036854775807) (λ(l,_)=> .d (.int .u32 (sumOf 0 l))) (λ(l,_) hp=>⟨rfl,zzW l hp⟩)
@[go_sem] noncomputable def zcG:Ent Tryz.prog 306:= .ofL (consL (intT .u32) nilL) (λ(c,_)=>True) (λ(c,_)=> .d (.str (zgM c))) (λ(c,_) hp=>⟨rfl,zqP c⟩)
abbrev Txt:=List UInt8
abbrev PutR:=Int×Txt
def putD (q:PutR):List D:= [.int .i64 q.1,.str q.2]
def zib:∀a b,putD a=putD b->a=b:=by rintro ⟨a,b⟩ ⟨J,b'⟩ h;simpa [putD] using h
structure Disk where
 data:Txt
 cache:List PutR
 fuse:Int
 off:Bool
 bad:List Int
 deriving DecidableEq
def diskA (d:Disk):AV:= .agg [.d (.str d.data),.d (.sl 2 (d.cache.map putD)),.d (.int .i64 d.fuse),.d (.bool d.off),.d (.sl 1 (d.bad.map intD))]
attribute [go_sem] diskA
def diskC (d:Disk):List AV:= [.d (.str d.data),.d (.sl 2 (d.cache.map putD)),.d (.int .i64 d.fuse),.d (.bool d.off),.d (.sl 1 (d.bad.map intD))]
attribute [go_sem] diskC
def zm0 d:Disk.mk d.data d.cache d.fuse d.off d.bad=d:=rfl
noncomputable def zC:PT Disk:=aggT (consL strT (consL (slT 2 putD zib) (consL (intT .i64) (consL boolT (consL (slT 1 intD zdu) nilL))))) (λp=>⟨p.1,p.2.1,p.2.2.1,p.2.2.2.1,p.2.2.2.2.1⟩) (λx=>(x.data,x.cache,x.fuse,x.off,x.bad,())) (λ_=>rfl)
attribute [go_sem] zC
noncomputable def zwB:PT Disk:=dpT (consL strT (consL (slT 2 putD zib) (consL (intT .i64) (consL boolT (consL (slT 1 intD zdu) nilL))))) (λp=>⟨p.1,p.2.1,p.2.2.1,p.2.2.2.1,p.2.2.2.2.1⟩) (λx=>(x.data,x.cache,x.fuse,x.off,x.bad,())) (λ_=>rfl)
attribute [go_sem] zwB
attribute [go_sem] zm0
structure DiskOk (d:Disk):Prop where
 data:d.data.length<=9223372036854775807
 cache:d.cache.length<=9223372036854775807
 bad:d.bad.length<=9223372036854775807
 fuse0: -9223372036854775808<=d.fuse
 fuse1:d.fuse<=9223372036854775807
def dsize (d:Disk):Nat:=d.data.length / 64
def there (d:Disk) (at_:Int):Bool:=decide (0<=at_)&&decide (at_<(dsize d:Int))
def there_iff {d} {at_} :there d at_=true↔0<=at_/\at_<((d.data.length / 64:Nat):Int):=by rw [there,aq];exact and_congr decide_eq_true_iff decide_eq_true_iff
def zd8 (d:Disk):List Int->Option Int->Bool
 | [],_=>true
 |a::l,p=>there d a&&(match p with|none=>true|some b=>decide (b<a))&&zd8 d l (some a)
def putOk (d:Disk) (q:PutR):Bool:=there d q.1&&((q.2.length:Int)==64)
def dfit (d:Disk):Bool:=
 decide (1<=dsize d)&&decide (dsize d<=1024)&&(d.data.length % 64==0)&&decide (d.cache.length<=4096)&&d.cache.all (putOk d)&&zd8 d d.bad none
def isPut (at_:Int) (q:PutR):Bool:=q.1==at_
def sees (d:Disk) (at_:Int):Txt:=
 match d.cache.reverse.find? (isPut at_) with
 |some q=>q.2
 |none=>(d.data.drop (at_*64).toNat).take 64
def dread (d:Disk) (at_:Int):Txt×Int:=
 if d.off then ([],12) else if !there d at_ then ([],10) else if d.bad.contains at_ then ([],13) else (sees d at_,0)
def burnt (d:Disk):Disk:=if 0<d.fuse then { d with fuse:=d.fuse - 1 } else d
def zab (d:Disk) (at_:Int) (s:Txt):Disk×Int:=
 if d.off then (d,12) else if !there d at_ then (d,10) else if (s.length:Int)≠64 then (d,11)
 else if d.fuse=0 then ({ d with off:=true },12) else if d.bad.contains at_ then (d,13) else if 4096<=(d.cache.length:Int) then (d,16)
 else (burnt { d with cache:=d.cache++ [(at_,s)] },0)
def lay (b:Txt) (at_:Nat) (s:Txt):Txt:=b.take at_++s++b.drop (at_+s.length)
def zfi (b:Txt) (l:List PutR):Txt:=l.foldl (λb q=>lay b (q.1*64).toNat q.2) b
def dflush (d:Disk):Disk×Int:=
 if d.off then (d,12) else if d.fuse=0 then ({ d with off:=true },12)
 else (burnt { d with data:=zfi d.data d.cache,cache:= [] },0)
def dnew (n:Int):Disk×Int:=if n<1\/1024<n then (⟨[],[],0,false,[]⟩,11) else (⟨List.replicate (n*64).toNat 0,[], -1,false,[]⟩,0)
def zBL {n:Nat} (h:n<=9223372036854775807):IntKind.i64.wrap ((n:Int).tdiv 64)=((n / 64:Nat):Int):=by
 rw [ct fT,bz];omega
def zsK {d} (h:DiskOk d):DiskOk (burnt d):=by
 obtain ⟨h1,h2,J,h4,h5⟩:=h;unfold burnt;split
 .exact ⟨h1,h2,J,fU,fU⟩
 .exact ⟨h1,h2,J,h4,h5⟩
def putN (n:Nat):Nat->Txt
 |0=> []
 |k+1=>putN (n / 256) k++ [UInt8.ofNat n]
def takeN (l:Txt):Nat:=l.foldl (λn c=>n*256+c.toNat) 0
def zoJ (l:Txt) i b:(zh l).set i (zgE b)=zh (l.set i b):=by
 simp [zh,cK]
def zdj (l:Txt):(zh l).length=l.length:=nB
def zjl {b:Txt} {k} (J:k<b.length):(zh b).getD k []= [.int .u8 (b.getD k 0).toNat]:=by
 simp [zh,aN,J,zgE]
def zoK {b:Txt} {k} {x:Int} (J:k<b.length) c (hx:x=c.toNat):(zh b).set k (((zh b).getD k []).set 0 (D.int .u8 x))=zh (b.set k c):=by rw [zjl J,dh,hx];exact zoJ b k c
def zzE {b:Txt} {k} (J:k<b.length) c:(b.set k c).drop k=c::b.drop (k+1):=by
 rw [List.drop_set,U fT,cu,eJ J,dh]
def zu n k:(putN n k).length=k:=by
 induction k generalizing n with
 |zero=>rfl
 |succ k J=>rw [putN,ae,J];rfl
def zoL n i:putN n (i+1)=UInt8.ofNat (n / 256 ^ i)::putN n i:=by
 induction i generalizing n with
 |zero=>simp [putN]
 |succ i J=>
  rw [putN,J,putN,bf,Nat.div_div_eq_div_mul,Nat.pow_succ,Nat.mul_comm 256]
def zBO (n k:Nat) (J:k<=64):ishr .u64 (n:Int) (k:Int)=((n / 2 ^ k:Nat):Int):=by
 unfold ishr;rw [show min ((k:Int).toNat) IntKind.u64.bits=k by show min ((k:Int).toNat) 64=k;omega]
 grind
def u8_of (n:Nat):IntKind.u8.wrap (n:Int)=((UInt8.ofNat n).toNat:Int):=by rw [eL];simp
def zzF {n} (h0:0<=n) {i} (hi:i<=8):IntKind.u8.wrap (ishr .u64 n ((8*i:Nat):Int))=((UInt8.ofNat (n.toNat / 256 ^ i)).toNat:Int):=by refine' IJ;rw [zBO m _ fT,u8_of,aw,Nat.pow_mul]
def ziM l c:takeN (l++ [c])=takeN l*256+c.toNat:=by
 simp [takeN,eM]
def zsO l:takeN l<256 ^ l.length:=by
 rcases List.eq_nil_or_concat l with rfl|⟨J,c,rfl⟩
 .decide
 .rw [List.concat_eq_append,ziM,ae,bl,Nat.pow_succ];have:=zsO J;have:=c.toNat_lt
  grind
termination_by l.length
decreasing_by grind
def zdw {l} {i} (h:l.length<=i):takeN l<256 ^ i:=aE (zsO l) (eN gb h)
def zA {x} (h0:0<=x) (h1:x<18446744073709551616):IntKind.u64.wrap x=x:=by
 rw [fA];omega
def zwJ {l:Txt} {i} {c} (J:l[i]?=some c) (hi:i<8):IntKind.u64.wrap (IntKind.u64.wrap ((takeN (l.take i):Nat)*256)+IntKind.u64.wrap (c.toNat:Int))=((takeN (l.take (i+1)):Nat):Int):=by have h1:takeN (l.take i)<256 ^ 7:=zdw fU;have h2:=c.toNat_lt;rw [zA (x:=(takeN (l.take i):Nat)*256) fT fT,zA (x:=(c.toNat:Int)) fT fT,zA fT fT,zcT J,ziM];omega
def idxP {α:Type} (p:α->Bool):List α->Nat->Int
 | [],_=> -1
 |q::l,k=>if p q=true then (k:Int) else idxP p l (k+1)
abbrev Idst {α:Type} (p:α->Bool) (l:List α):= { i:Nat // i<=l.length/\idxP p l 0=idxP p (l.drop i) i }
def zm1 {α} p:∀ (l:List α) (k:Nat),decide ((0:Int)<=idxP p l k)=l.any p
 | [],k=>rfl
 |q::l,k=>by
  rw [idxP,eO];by_cases h:p q=true
  .grind
  .rw [U h,zm1 p l (k+1)];simp [h]
def zgL {α:Type} [BEq α] [LawfulBEq α] x:∀ (l:List α),l.any (λq=>x==q)=l.contains x
 | []=>rfl
 |q::l=>fU
def zqG l x (hl:l.length<=9223372036854775807):AC 355 [.d (.sl 1 (l.map intD)),.d (.int .i64 x)] (.d (.int .i64 (idxP (λq=>x==q) l 0))):=by
 refine bod Tryz.func355 Tryz.ntmps355 (λbase=>?_);refine' Ds;refine zk (λq:Idst (λq=>x==q) l=>⟨[(0,true,.d (.sl 1 (l.map intD))),(1,true,.d (.int .i64 x)),(7,true,.d (.int .i64 l.length)),(8,true,.d (.int .i64 q.1))],[],some []⟩) (λq=>l.length - q.1) ⟨0,fU,rfl⟩ le1 (λq=>?_);refine' Di;rcases zw intD l i hi with ⟨m,hq,aZ,J,ab,b4,a7⟩|⟨ao,J⟩
 .simp only [intD] at ab;refine' CO;refine' zc (zg J ab)
  .rw [hf,b4,idxP,aa fU]
  .exact ⟨⟨i+1,fT,by rw [hf,b4,idxP,U fU]⟩,lew,fU⟩
 .refine' Hp
@[go_sem] noncomputable def zca:Ent Tryz.prog 355:= .m2 (slT 1 intD zdu) (intT .i64) zqG
def zlm (l:List Int) x (J:l.length<=9223372036854775807):AC 362 [.d (.sl 1 (l.map intD)),.d (.int .i64 x)] (.d (.bool (l.contains x))):=by refine bod Tryz.func362 Tryz.ntmps362 (λbase=>?_);refine' walkW fx (za zca <| zb _);rw [zm1,zgL]
@[go_sem] noncomputable def zer:Ent Tryz.prog 362:= .m2 (slT 1 intD zdu) (intT .i64) zlm
def zCp d (J:DiskOk d):AC 398 [diskA d] (.d (.int .i64 (dsize d))):=by refine bod Tryz.func398 Tryz.ntmps398 (λbase=>?_);refine' zc (zBL J.data);rfl
@[go_sem] noncomputable def zwI:Ent Tryz.prog 398:= .m1 zC zCp
def zDT d at_:(decide (at_<0)||decide (((dsize d:Nat):Int)<=at_))= !there d at_:=by
 rw [there,cg]
 grind
def zDU d at_ (J:DiskOk d):AC 361 [diskA d,.d (.int .i64 at_)] (.d (.bool (!there d at_))):=by refine bod Tryz.func361 Tryz.ntmps361 (λbase=>?_);refine' walkW fx (za zwI <| zb _);rw [zDT]
@[go_sem] noncomputable def zm2:Ent Tryz.prog 361:= .m2 zC (intT .i64) zDU
def zuQ {d d'} (h:d'.data.length=d.data.length) a:there d' a=there d a:=by unfold there dsize;rw [h]
def zpb d:(burnt d).bad=d.bad:=by unfold burnt;grind
end Go.Aw
