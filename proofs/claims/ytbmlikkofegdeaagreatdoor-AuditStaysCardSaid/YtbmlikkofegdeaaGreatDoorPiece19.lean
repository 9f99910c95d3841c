/-
  Parts of the proof: OnceA, OnceB, CrcA, CrcB, CrcE (short names; the readable texts lie in the repo, under wip).
-/
import Derived.Test.YtbmlikkofegdeaaGreatDoorProg
import Derived.KernelRfl
import Derived.WalkKit
import Derived.Tactics
import Derived.Tactics2
import Derived.Defers
import Derived.Laws.Pointers
import Derived.Laws.LoneSync
import Derived.RegionTactic
import Derived.RegionCalls
import Derived.ChangeAlike
import Derived.Test.YtbmlikkofegdeaaGreatDoorPiece9
import Derived.Test.YtbmlikkofegdeaaGreatDoorPiece10
import Derived.Test.YtbmlikkofegdeaaGreatDoorPiece18
import Derived.Test.YtbmlikkofegdeaaGreatDoorPiece8
import Derived.Test.YtbmlikkofegdeaaGreatDoorPiece15
import Derived.Test.YtbmlikkofegdeaaGreatDoorPiece17
set_option maxRecDepth 100000
set_option maxHeartbeats 2000000
set_option linter.unusedSimpArgs false
set_option linter.unusedVariables false
namespace Go.Proofs.YtbmlikkofegdeaaGreatDoor
open Go Go.RowKit
theorem disable (w:World):(callFunc 326 #[]).run Tryz.prog w= .ok (.value (.tuple #[])) w:=run_call_mark0 Tryz.func326 (by kernel_rfl) (by kernel_rfl) (by kernel_rfl) .disable (by kernel_rfl) w
theorem enable (w:World):(callFunc 328 #[]).run Tryz.prog w= .ok (.value (.tuple #[])) w:=run_call_mark0 Tryz.func328 (by kernel_rfl) (by kernel_rfl) (by kernel_rfl) .enable (by kernel_rfl) w
theorem acquire (a:Addr) (w:World):(callFunc 329 #[.pointer (some a)]).run Tryz.prog w= .ok (.value (.tuple #[])) w:=run_call_marked Tryz.func329 (by kernel_rfl) (by kernel_rfl) (by kernel_rfl) .acquire (by kernel_rfl) a w
theorem releaseMerge (a:Addr) (w:World):(callFunc 331 #[.pointer (some a)]).run Tryz.prog w= .ok (.value (.tuple #[])) w:=run_call_marked Tryz.func331 (by kernel_rfl) (by kernel_rfl) (by kernel_rfl) .releaseMerge (by kernel_rfl) a w
theorem zjN (a:Addr) (x:Value) (u:FrameMode) (w:World) (hc:w.cell? a=some x) (hz:w.frozen? a=false):
  CallsD Tryz.prog 314 #[.pointer (some a),.bool true] u w λe u' w'=>u'=u/\(e= .returned (.tuple #[])/\w'=w.drew.setCell a (.int .u32 1)):=by
 have hc':w.drew.cell? a=some x:=by go_simp
 have hz':w.drew.frozen? a=false:=by go_simp
 have hst:=run_call_store (P:=Tryz.prog) Tryz.func320 (by kernel_rfl) (by kernel_rfl) (by kernel_rfl) (by kernel_rfl) (k:= .u32) (y:=1) hc' hz'
 go_enter_d Tryz.func314,Tryz.ntmps314
 go_wp2
 go_region_calls
 all_goals (go_end0;exact ⟨rfl,rfl⟩)
theorem zmD (a:Addr) (w:World) (hc:w.cell? a=some (.int .i32 1)) (hz:w.frozen? a=false):
  Calls Tryz.prog 319 #[.pointer (some a)] w λe w'=>e= .returned (.tuple #[])/\w'=w.setCell a (.int .i32 0):=by
 have hd:=disable;have he:=enable;have hr:=releaseMerge;have hadd:=run_call_add (P:=Tryz.prog) Tryz.func332 (by kernel_rfl) (by kernel_rfl) (by kernel_rfl) .i32 (by kernel_rfl) (y:= -1) (s:=0) hc hz (by simp [go_sem];rfl);have hcv:=run_convert_to_unsafe (P:=Tryz.prog) (src:=391) (dst:=326) Tryz.underlying391 Tryz.underlying326 (by kernel_rfl) hc
 go_enter Tryz.func319,Tryz.ntmps319
 go_wp2
 go_end0
 exact ⟨rfl,rfl⟩
theorem ziO (a:Addr) (u:FrameMode) (w:World) (hc:w.cell? a=some (.int .i32 1)) (hz:w.frozen? a=false):
  CallsD Tryz.prog 313 #[.pointer (some a)] u w λe u' w'=>u'=u/\(e= .returned (.tuple #[])/\w'=w.setCell a (.int .i32 0)):=by
 go_enter_d Tryz.func313,Tryz.ntmps313
 go_wp2_with (go_at_call 319;refine (zmD a _ (by go_simp) (by go_simp)).mono ?_;rintro e w' ⟨rfl,rfl⟩)
 go_end0
 exact ⟨rfl,rfl⟩
theorem zqx (a:Addr) (w:World) (hc:w.cell? a=some (.int .i32 0)) (hz:w.frozen? a=false):
  Calls Tryz.prog 318 #[.pointer (some a)] w λe w'=>e= .returned (.tuple #[])/\w'=w.setCell a (.int .i32 1):=by
 have hd:=disable;have he:=enable;have ha:=acquire;have hcas:=run_call_cas_hit (P:=Tryz.prog) Tryz.func327 (by kernel_rfl) (by kernel_rfl) (by kernel_rfl) .i32 (by kernel_rfl) (y:=1) hc hz;have hc':(w.setCell a (.int .i32 1)).cell? a=some (.int .i32 1):=World.cell?_setCell_same w a _ hc;have hcv:=run_convert_to_unsafe (P:=Tryz.prog) (src:=391) (dst:=326) Tryz.underlying391 Tryz.underlying326 (by kernel_rfl) hc'
 go_enter Tryz.func318,Tryz.ntmps318
 go_wp2
 first|go_end0|(simp only [Exit.inBlock,Exit.then];refine bodyPost_ret (results_none rfl _ _ _) rfl ?_)|refine bodyPost_ret (results_none rfl _ _ _) rfl ?_
 exact ⟨rfl,rfl⟩
theorem zsC (a:Addr) (w:World) (hc:w.cell? a=some (.int .i32 0)) (hz:w.frozen? a=false):
  Calls Tryz.prog 312 #[.pointer (some a)] w λe w'=>e= .returned (.tuple #[])/\w'=w.setCell a (.int .i32 1):=by
 go_enter Tryz.func312,Tryz.ntmps312
 go_wp2_with (go_at_call 318;refine (zqx a _ (by go_simp) (by go_simp)).mono ?_;rintro e w' ⟨rfl,rfl⟩)
 go_end0
 exact ⟨rfl,rfl⟩
theorem zmE (a:Addr) (x:Int) (w:World) (hc:w.cell? a=some (.int .u32 x)):
  Calls Tryz.prog 303 #[.pointer (some a)] w λe w'=>e= .returned (.bool (x !=0))/\w'=w:=by
 have hl:=run_call_load (P:=Tryz.prog) Tryz.func311 (by kernel_rfl) (by kernel_rfl) (by kernel_rfl) .u32 (by kernel_rfl) hc
 go_enter Tryz.func303,Tryz.ntmps303
 go_wp2
 go_ret
 exact ⟨rfl,rfl⟩
set_option maxHeartbeats 1600000 in
theorem zu1 (b off:Nat) (p:Value) (w:World) (R:World->Prop)
  (h0:w.cell? ⟨b,off,none⟩=some (.int .u32 0)) (h1:w.cell? ⟨b,off+1,none⟩=some (.int .i32 0)) (f0:w.frozen? ⟨b,off,none⟩=false) (f1:w.frozen? ⟨b,off+1,none⟩=false)
  (hf:Calls Tryz.prog 291 #[p] (w.setCell ⟨b,off+1,none⟩ (.int .i32 1)) λe w2=>e= .returned (.tuple #[])/\R w2)
  (hR:∀w2,R w2->w2.cell? ⟨b,off,none⟩=some (.int .u32 0)/\w2.cell? ⟨b,off+1,none⟩=some (.int .i32 1)/\w2.frozen? ⟨b,off,none⟩=false/\w2.frozen? ⟨b,off+1,none⟩=false):
  Calls Tryz.prog 304 #[.pointer (some ⟨b,off,none⟩),.func (.func 291) #[p] #[]] w λe w'=>e= .returned (.tuple #[])/\
   ∃w2,R w2/\w'=(w2.drew.setCell ⟨b,off,none⟩ (.int .u32 1)).setCell ⟨b,off+1,none⟩ (.int .i32 0):=by
 have hnot:∀ (x:Bool) (w:World),(Op.unary .not (.bool x)).run Tryz.prog w= .ok (.bool (!x)) w:=λ_ _=>rfl;have hld:(w.setCell ⟨b,off+1,none⟩ (.int .i32 1)).cell? ⟨b,off,none⟩=some (.int .u32 0):=(World.cell?_setCell_other _ ⟨b,off+1,none⟩ ⟨b,off,none⟩ _ (by simp)).trans h0
 go_enter_defers Tryz.func304,Tryz.ntmps304
 go_wp2_with (first
  |(go_at_call 312;refine (zsC ⟨b,off+1,none⟩ _ (by go_simp) (by go_simp)).mono ?_;rintro e w' ⟨rfl,rfl⟩)
  |(go_at_call 303;refine (zmE ⟨b,off,none⟩ 0 _ hld).mono ?_;rintro e w' ⟨rfl,rfl⟩)
  |(go_at_call 291;refine hf.mono ?_;rintro e w2 ⟨rfl,hr⟩))
 obtain ⟨g0,g1,g2,g3⟩:=hR w2 hr;refine leaves_cons (f:=314) (args:= #[.pointer (some ⟨b,off,none⟩),.bool true]) (by simp) (by simp [go_sem]) ?_;refine (zjN ⟨b,off,none⟩ (.int .u32 0) .returning _ g0 g2).mono ?_;rintro e u' w'' ⟨rfl,rfl,rfl⟩;refine leaves_cons (f:=313) (args:= #[.pointer (some ⟨b,off+1,none⟩)]) (by simp [settle]) (by simp [go_sem]) ?_;refine (ziO ⟨b,off+1,none⟩ _ _ ?_ (by simp [g3])).mono ?_
 ·refine (World.cell?_setCell_other _ ⟨b,off,none⟩ ⟨b,off+1,none⟩ _ (by simp)).trans ?_;rw [World.cell?_drew];exact g1
 rintro e u' w'' ⟨rfl,rfl,rfl⟩;simp only [Leaves,settle];exact ⟨.tuple #[],by simp [results,Tryz.results304],rfl,w2,hr,rfl⟩
set_option maxHeartbeats 1600000 in
theorem do_first (b off:Nat) (p:Value) (w:World) (R:World->Prop)
  (h0:w.cell? ⟨b,off,none⟩=some (.int .u32 0)) (h1:w.cell? ⟨b,off+1,none⟩=some (.int .i32 0)) (f0:w.frozen? ⟨b,off,none⟩=false) (f1:w.frozen? ⟨b,off+1,none⟩=false)
  (hf:Calls Tryz.prog 291 #[p] (w.setCell ⟨b,off+1,none⟩ (.int .i32 1)) λe w2=>e= .returned (.tuple #[])/\R w2)
  (hR:∀w2,R w2->w2.cell? ⟨b,off,none⟩=some (.int .u32 0)/\w2.cell? ⟨b,off+1,none⟩=some (.int .i32 1)/\w2.frozen? ⟨b,off,none⟩=false/\w2.frozen? ⟨b,off+1,none⟩=false):
  Calls Tryz.prog 290 #[.pointer (some ⟨b,off,none⟩),.func (.func 291) #[p] #[]] w λe w'=>e= .returned (.tuple #[])/\
   ∃w2,R w2/\w'=(w2.drew.setCell ⟨b,off,none⟩ (.int .u32 1)).setCell ⟨b,off+1,none⟩ (.int .i32 0):=by
 have hnot:∀ (x:Bool) (w:World),(Op.unary .not (.bool x)).run Tryz.prog w= .ok (.bool (!x)) w:=λ_ _=>rfl
 go_enter Tryz.func290,Tryz.ntmps290
 go_wp2_with (first
  |(go_at_call 303;refine (zmE ⟨b,off,none⟩ 0 _ h0).mono ?_;rintro e w' ⟨rfl,rfl⟩)
  |(go_at_call 304;refine (zu1 b off p _ R h0 h1 f0 f1 hf hR).mono ?_;rintro e w' ⟨rfl,w2,hr,rfl⟩))
 go_end0
 exact ⟨rfl,w2,hr,rfl⟩
end Go.Proofs.YtbmlikkofegdeaaGreatDoor
namespace Go.Aw
open Go Go.Proofs
section
variable {P : Program} {w w' : World} {E E' : Env} {h h' : AHeap}
theorem ziP:∀ (h:AHeap) (i:Nat) (a b:AObj),hset (hset h i a) i b=hset h i b
  | [],_,_,_=>rfl
  | (k,o)::r,i,a,b=>by
    by_cases hk:k=i
    · simp [hset,hk]
    · simp [hset,hk,ziP r]
theorem zaS {h:AHeap} {i j:Nat} {o:AObj} (hi:(hget h i).isSome):(hget (hset h i o) j).isSome=(hget h j).isSome:=by
 by_cases hj:j=i
 ·subst hj;obtain ⟨x,hx⟩:=Option.isSome_iff_exists.1 hi;rw [zh hx,hx];rfl
 ·rw [zH hj]
theorem poke (hs:SatH E h w) {i o b:Nat} {cs:List AV} (hi:hget h i=some (.var cs)) (hb:E.O i=some b) {x:AV} {v:Value} (hr:Rep w E h x v):
  Chg E h w E (hset h i (.var (cs.set o x))) (w.setCell ⟨b,o,none⟩ v) i/\SatH E (hset h i (.var (cs.set o x))) (w.setCell ⟨b,o,none⟩ v):=by have hob:=hs.heap i _ hi;simp only [RepObj] at hob;obtain ⟨b',c,T,fz,g1,g2,g3,g4⟩:=hob;rw [hb] at g1;cases g1;rw [zeO g2];have ch:=znv hs hi (cs':=cs.set o x) (by simp) hb (.cells (c.setIfInBounds o v) T fz);refine ⟨ch,ch.satH hs (λob hob=>?_)⟩;rw [zh hi] at hob;cases hob;simp only [RepObj];refine ⟨b,_,T,fz,hb,zel (Array.getElem?_eq_some_iff.1 g2).1,?_,by simpa using g4⟩;rw [Array.toList_setIfInBounds];exact ch.reps (g3.set hr)
theorem zh5 {i:Nat} {o:AObj} (hi:(hget h i).isSome) {b:Nat} :Own E (hset h i o) b↔Own E h b:=by
 unfold Own;constructor
 ·rintro ⟨j,h1,h2⟩;exact ⟨j,by rwa [zaS hi] at h1,h2⟩
 ·rintro ⟨j,h1,h2⟩;exact ⟨j,by rwa [zaS hi],h2⟩
end
section
variable {h : AHeap}
theorem zw2 {fl i:Nat} {cs cs2:List AV} (hi:hget h i=some (.var cs)) (c0:cs[0]?=some (.d (.int .u32 0))) (c1:cs[1]?=some (.d (.int .i32 0)))
  (d0:cs2[0]?=some (.d (.int .u32 0))) (d1:cs2[1]?=some (.d (.int .i32 1)))
  (hf:ACallAt Tryz.prog fl 291 [.vp i 0] (hset h i (.var (cs.set 1 (.d (.int .i32 1))))) (λr h'=>r= .tup []/\h'=hset h i (.var cs2))):
  ACallAt Tryz.prog fl 290 [.vp i 0,.fn (.func 291) [.vp i 0] []] h (λr h'=>r= .tup []/\h'=hset h i (.var ((cs2.set 0 (.d (.int .u32 1))).set 1 (.d (.int .i32 0))))):=by
 refine ⟨zdn Tryz.func290 (by kernel_rfl) rfl,λE w vs hs hr=>?_⟩;simp only [Reps] at hr;obtain ⟨v0,r0,e0,q0,v1,r1,rfl,q1,rfl⟩:=hr;simp only [Rep,Reps] at q1;obtain ⟨fa,fb,rfl,⟨u,r2,e2,q2,rfl⟩,e3⟩:=q1;have q0':=q0;simp only [Rep] at q0 q2;obtain ⟨b,cs',hi',hb,rfl⟩:=q0;obtain ⟨b',cs'',hi'',hb',rfl⟩:=q2;rw [hb] at hb';cases hb';have hfa:fa= #[.pointer (some ⟨b,0,none⟩)]:=by cases fa;simpa using e2
 have hfb:fb= #[]:=by cases fb;simpa using e3
 subst hfa hfb;have hvs:vs= #[.pointer (some ⟨b,0,none⟩),.func (.func 291) #[.pointer (some ⟨b,0,none⟩)] #[]]:=by cases vs;simpa using e0
 subst hvs
 have look:∀ {E:Env} {h:AHeap} {w:World} {xs:List AV},SatH E h w->hget h i=some (.var xs)->E.O i=some b->∀ (o:Nat) (k:IntKind) (n:Int),xs[o]?=some (.d (.int k n))->w.cell? ⟨b,o,none⟩=some (.int k n)/\w.frozen? ⟨b,o,none⟩=false:=by
  intro E h w xs hs hi hb o k n ho;have hob:=hs.heap i _ hi;simp only [RepObj] at hob;obtain ⟨b',c,T,fz,g1,g2,g3,g4⟩:=hob;rw [hb] at g1;cases g1;obtain ⟨v,h1,h2⟩:=Reps.get g3 ho;simp only [Rep,RepD] at h2;subst h2;have h1':c[o]?=some (.int k n):=by simpa using h1
  have hlt:=(Array.getElem?_eq_some_iff.1 h1').1;refine ⟨by rw [zac g2];exact h1',?_⟩;rw [zdN g2];have:=g4 o hlt;simpa using this
 obtain ⟨a0,z0⟩:=look hs hi hb 0 _ _ c0;obtain ⟨a1,z1⟩:=look hs hi hb 1 _ _ c1;obtain ⟨ch1,hs1⟩:=poke hs hi hb (o:=1) (x:= .d (.int .i32 1)) (v:= .int .i32 1) (by simp [Rep,RepD]);have hsome:(hget h i).isSome:=by simp [hi]
 have hp1:Rep (w.setCell ⟨b,1,none⟩ (.int .i32 1)) E (hset h i (.var (cs.set 1 (.d (.int .i32 1))))) (.vp i 0) (.pointer (some ⟨b,0,none⟩)):=ch1.rep q0';have hfill:=hf.2 E _ #[.pointer (some ⟨b,0,none⟩)] hs1 (by simp only [Reps];exact ⟨_,_,rfl,hp1,rfl⟩)
 let R:World->Prop:=λw2=>∃E2,SatH E2 (hset h i (.var cs2)) w2/\EvoC fl E (hset h i (.var (cs.set 1 (.d (.int .i32 1))))) (w.setCell ⟨b,1,none⟩ (.int .i32 1)) E2 (hset h i (.var cs2)) w2/\
  (∀x y,Rep (w.setCell ⟨b,1,none⟩ (.int .i32 1)) E (hset h i (.var (cs.set 1 (.d (.int .i32 1))))) x y->Rep w2 E2 (hset h i (.var cs2)) x y)
 have hO:∀ {w2 E2},(∀x y,Rep (w.setCell ⟨b,1,none⟩ (.int .i32 1)) E (hset h i (.var (cs.set 1 (.d (.int .i32 1))))) x y->Rep w2 E2 (hset h i (.var cs2)) x y)->E2.O i=some b:=by
  intro w2 E2 hrep;have:=hrep _ _ hp1;simp only [Rep] at this;obtain ⟨b2,_,_,h1,h2⟩:=this
  have:b=b2:=by have:=Value.pointer.inj h2;have:=Option.some.inj this;exact congrArg Addr.block this
  rw [h1,this]
 have hget2:hget (hset h i (.var cs2)) i=some (.var cs2):=zh hi;refine (Go.Proofs.YtbmlikkofegdeaaGreatDoor.do_first b 0 (.pointer (some ⟨b,0,none⟩)) w R a0 a1 z0 z1 (hfill.mono ?_) ?_).mono ?_
 ·rintro e w2 ⟨v,E2,r,h2,rfl,⟨rfl,rfl⟩,g1,g2,g3,g4⟩;simp only [Rep,Reps] at g2;obtain ⟨vs,rfl,g5⟩:=g2;have:vs= #[]:=by cases vs;simpa using g5
  subst this;exact ⟨rfl,E2,g1,g3,g4⟩
 ·rintro w2 ⟨E2,g1,g2,g3⟩;obtain ⟨x0,y0⟩:=look g1 hget2 (hO g3) 0 _ _ d0;obtain ⟨x1,y1⟩:=look g1 hget2 (hO g3) 1 _ _ d1;exact ⟨x0,x1,y0,y1⟩
 ·rintro e w3 ⟨rfl,w2,⟨E2,g1,g2,g3⟩,rfl⟩;have hb2:=hO g3;have hsd:SatH E2 (hset h i (.var cs2)) w2.drew:=g1.refit ⟨rfl,rfl,rfl,rfl,λ_ _=>rfl,λ_ _ h _ _=>h⟩ (base:=0) rfl rfl (λ_ _ h=>h) (λb hb=>(g1.own b hb).2) g1.mlt g1.nlt;obtain ⟨ch2,hs2⟩:=poke hsd hget2 hb2 (o:=0) (x:= .d (.int .u32 1)) (v:= .int .u32 1) (by simp [Rep,RepD]);have hget3:hget (hset (hset h i (.var cs2)) i (.var (cs2.set 0 (.d (.int .u32 1))))) i=some (.var (cs2.set 0 (.d (.int .u32 1)))):=zh hget2;obtain ⟨ch3,hs3⟩:=poke hs2 hget3 hb2 (o:=1) (x:= .d (.int .i32 0)) (v:= .int .i32 0) (by simp [Rep,RepD])
  have hrep3:∀x y,Rep w2 E2 (hset h i (.var cs2)) x y->Rep _ E2 _ x y:=λx y hxy=>
   ch3.rep (ch2.rep (Rep.step (W:=w2) (W':=w2.drew) (λ_ _ h=>h) (λ_ _ _=>rfl) x y (λj _=>GoesOn.refl E2 _ j) hxy))
  have hs2some:(hget (hset h i (.var cs2)) i).isSome:=by simp [hget2]
  have hs3some:(hget (hset (hset h i (.var cs2)) i (.var (cs2.set 0 (.d (.int .u32 1))))) i).isSome:=by simp [hget3]
  have e4:hset (hset (hset h i (.var cs2)) i (.var (cs2.set 0 (.d (.int .u32 1))))) i (.var ((cs2.set 0 (.d (.int .u32 1))).set 1 (.d (.int .i32 0))))=hset h i (.var ((cs2.set 0 (.d (.int .u32 1))).set 1 (.d (.int .i32 0)))):=by rw [ziP,ziP]
  refine ⟨.tuple #[],E2,.tup [],_,rfl,⟨rfl,rfl⟩,e4 ▸ hs3,by simp [Rep,Reps],?_,λx y hxy=>e4 ▸ hrep3 x y (g3 x y (ch1.rep hxy))⟩
  have hown:∀b',b'<w.heap.size->¬Own E h b'->w2.heap[b']?=w.heap[b']?:=λb' hb' hno=>
   (g2.keep b' (by simpa using hb') (λho=>hno ((zh5 hsome).1 ho))).trans (ch1.blk b' hb' (λ⟨h1,h2⟩=>hno ⟨i,h1,h2⟩))
  have hsz:w.heap.size<=w2.heap.size:=Nat.le_trans ch1.size g2.size;refine ⟨?_,?_,?_,?_,λb' hb' hno=>?_,λb' ho=>?_,g2.m,g2.n,λj hj hjs=>?_⟩
  ·exact ch3.os.trans (ch2.os.trans (g2.os.trans ch1.os))
  ·exact ch3.tape.trans (ch2.tape.trans (g2.tape.trans ch1.tape))
  ·exact ch3.output.trans (ch2.output.trans (g2.output.trans ch1.output))
  ·exact Nat.le_trans hsz (Nat.le_trans ch2.size ch3.size)
  ·have hne:¬E2.O i=some b':=λe=>by rw [hb2] at e;cases e;exact hno ⟨i,hsome,hb⟩
   have h1:b'<w2.drew.heap.size:=Nat.lt_of_lt_of_le hb' hsz;rw [ch3.blk b' (Nat.lt_of_lt_of_le h1 ch2.size) (λh=>hne h.2),ch2.blk b' h1 (λh=>hne h.2)];exact hown b' hb' hno
  ·rw [zh5 hsome] at ho;have ho2:Own E2 (hset h i (.var cs2)) b':=(zh5 hsome).2 ho;rcases g2.own b' ho2 with h1|h1
   ·exact .inl ((zh5 hsome).1 h1)
   ·exact .inr (by simpa using h1)
  ·rw [zaS hsome] at hjs;have hj2:(hget (hset h i (.var cs2)) j).isSome:=by rwa [zaS hsome]
   obtain ⟨p1,p2⟩:=g2.go j hj hj2;refine ⟨hjs,?_⟩;have p3:=(ch1.goesOn j).trans p2;have p4:=p3.trans ((ch2.goesOn j).trans (ch3.goesOn j));exact e4 ▸ p4
end
open Go Go.Proofs
def bitT (c:Int):Int:=ibits .xor .u32 (ishr .u32 c 1) (IntKind.u32.wrap (ibits .and .u32 c 1*2197175160))
def bitsT:Nat->Int->Int
 |0,c=>c
 |n+1,c=>bitT (bitsT n c)
def tabF (j:Nat):Int:=bitsT 8 (IntKind.u32.wrap j)
def tblF (i:Nat):List D:=(List.range 256).map λj=>D.int .u32 (if j<i then tabF j else 0)
theorem zpt (i:Nat):(tblF i).length=256:=by simp [tblF]
theorem zu0 (i:Nat) (hi:i<256):(tblF i).set i (.int .u32 (tabF i))=tblF (i+1):=by
 apply List.ext_getElem?;intro j;rw [List.getElem?_set];unfold tblF;simp only [List.length_map,List.length_range,List.getElem?_map];by_cases hj:i=j
 ·subst hj;simp [hi]
 ·rw [if_neg hj];by_cases hj2:j<256
  ·rw [List.getElem?_range hj2];simp only [Option.map_some,Option.some.injEq,D.int.injEq,true_and];by_cases h1:j<i
   ·rw [if_pos h1,if_pos (by omega)]
   ·rw [if_neg h1,if_neg (by omega)]
  ·simp [hj2]
theorem zdU:∀ (l:List D),AV.leL (l.map AV.d) (l.map AV.d)
 | []=>by simp [AV.leL]
 |x::l=>by simp only [List.map_cons,AV.leL,AV.le,true_and];exact zdU l
theorem zqw (x y z:D):ACall Tryz.prog 291 1 [.vp 0 0] [(0,.var (.d x:: .d y:: .d z::(tblF 0).map AV.d))] (λr h'=>r= .tup []/\h'= [(0,.var (.d x:: .d y:: .d z::(tblF 256).map AV.d))]):=by
 refine zaP Tryz.func291 rfl (zdn Tryz.func291 (by kernel_rfl) rfl) Tryz.ntmps291 (by simp) (λbase=>?_);refine zi noTab (zb _) (λK hK=>?_);simp only [go_sem,Nat.le_refl,List.append_toArray,List.range_zero,List.append_eq,Int.toNat_natCast,aeq,aeq.aeqF,simprocAttr];refine hK _ ?_;clear hK K;refine za7 ?_;refine zq (λi: {i:Nat // i<=256} =>⟨[(0,true,.vp 0 0),(4,true,.d (.int .i64 i.1))],[(0,.var (.d x:: .d y:: .d z::(tblF i.1).map AV.d))],some []⟩) (λi=>256 - i.1) ⟨0,by omega⟩ (by simp only [AS.le,leT,leH,zf,AsgK,AV.le,AV.leL,AObj.le,inH,idsT,idsH,AV.ids,AV.idsL,AV.idsR,AObj.ids,lk,hget,go_sem,Nat.le_refl,List.append_toArray,List.range_zero,List.append_eq,Int.toNat_natCast,aeq,aeq.aeqF,simprocAttr]<;>simp [zdU,zcM,inH]) (λi=>?_);obtain ⟨i,hi⟩:=i;refine zi noTab (zb _) (λK hK=>?_);simp only [go_sem,Nat.le_refl,List.append_toArray,List.range_zero,List.append_eq,Int.toNat_natCast,aeq,aeq.aeqF,simprocAttr];refine hK _ ?_;clear hK K;refine zaM (λK hK=>?_);refine zbA rfl (λhc=>?_) (λhc=>?_)
 ·refine zeL ?_;simp only [go_sem,Nat.le_refl,List.append_toArray,List.range_zero,List.append_eq,Int.toNat_natCast,aeq,aeq.aeqF,simprocAttr];refine hK _ ?_;clear hK K;have hil:i<256:=by simp at hc;omega
  refine zaM (λK hK=>?_);refine za7 ?_;refine zi noTab (zb _) (λK hK=>?_);simp only [go_sem,Nat.le_refl,List.append_toArray,List.range_zero,List.append_eq,Int.toNat_natCast,aeq,aeq.aeqF,simprocAttr];refine hK _ ?_;clear hK K;refine zi noTab (zb _) (λK hK=>?_);simp only [go_sem,Nat.le_refl,List.append_toArray,List.range_zero,List.append_eq,Int.toNat_natCast,aeq,aeq.aeqF,simprocAttr];refine hK _ ?_;clear hK K;refine zaM (λK2 hK2=>?_);refine zi noTab (zb _) (λK hK=>?_);simp only [go_sem,Nat.le_refl,List.append_toArray,List.range_zero,List.append_eq,Int.toNat_natCast,aeq,aeq.aeqF,simprocAttr];refine hK _ ?_;clear hK K;refine za7 ?_;refine zq (λk: {k:Nat // k<=8} =>⟨[(0,true,.vp 0 0),(4,true,.d (.int .i64 i)),(2,true,.d (.int .i64 i)),(3,true,.d (.int .u32 (bitsT k.1 (IntKind.u32.wrap i)))),(9,true,.d (.int .i64 k.1))],[(0,.var (.d x:: .d y:: .d z::(tblF i).map AV.d))],some []⟩) (λk=>8 - k.1) ⟨0,by omega⟩ (by simp only [AS.le,leT,leH,zf,AsgK,AV.le,AV.leL,AObj.le,inH,idsT,idsH,AV.ids,AV.idsL,AV.idsR,AObj.ids,lk,hget,go_sem,Nat.le_refl,List.append_toArray,List.range_zero,List.append_eq,Int.toNat_natCast,aeq,aeq.aeqF,simprocAttr]<;>simp [zdU,zcM,inH,bitsT]) (λk=>?_);obtain ⟨k,hk⟩:=k;refine zi noTab (zb _) (λK hK=>?_);simp only [go_sem,Nat.le_refl,List.append_toArray,List.range_zero,List.append_eq,Int.toNat_natCast,aeq,aeq.aeqF,simprocAttr];refine hK _ ?_;clear hK K;refine zaM (λK3 hK3=>?_);refine zbA rfl (λhc=>?_) (λhc=>?_)
  ·refine zeL ?_;simp only [go_sem,Nat.le_refl,List.append_toArray,List.range_zero,List.append_eq,Int.toNat_natCast,aeq,aeq.aeqF,simprocAttr];refine hK3 _ ?_;clear hK3 K3;have hkl:k<8:=by simp at hc;omega
   refine zaM (λK hK=>?_);refine za7 ?_;refine zan noTab (zb _) ?_;simp only [go_sem,Nat.le_refl,List.append_toArray,List.range_zero,List.append_eq,Int.toNat_natCast,aeq,aeq.aeqF,simprocAttr];refine hK _ ?_;clear hK K;refine zan noTab (zb _) ?_;simp only [go_sem,Nat.le_refl,List.append_toArray,List.range_zero,List.append_eq,Int.toNat_natCast,aeq,aeq.aeqF,simprocAttr];have hw:IntKind.i64.wrap ((k:Int)+1)=((k+1:Nat):Int):=by rw [IntKind.wrap_i64];omega
   refine ⟨⟨k+1,by omega⟩,?_,by simp;omega⟩;rw [hw];simp only [AS.le,leT,leH,zf,AsgK,AV.le,AV.leL,AObj.le,inH,idsT,idsH,AV.ids,AV.idsL,AV.idsR,AObj.ids,lk,hget,go_sem,Nat.le_refl,List.append_toArray,List.range_zero,List.append_eq,Int.toNat_natCast,aeq,aeq.aeqF,simprocAttr];simp [zdU,zcM,inH,bitsT,bitT]
  ·refine zeM ?_;simp only [go_sem,Nat.le_refl,List.append_toArray,List.range_zero,List.append_eq,Int.toNat_natCast,aeq,aeq.aeqF,simprocAttr];refine hK2 _ ?_;have hk8:k=8:=by simp at hc;omega
   subst hk8;refine zan noTab (zb _) ?_;simp only [go_sem,Nat.le_refl,List.append_toArray,List.range_zero,List.append_eq,Int.toNat_natCast,aeq,aeq.aeqF,simprocAttr];refine ⟨⟨by omega,by omega⟩,by simp [zpt];omega,?_⟩
   have hset:(AV.d x::AV.d y::AV.d z::(tblF i).map AV.d).set (3+i*1) (.d (.int .u32 (bitsT 8 (IntKind.u32.wrap i))))=AV.d x::AV.d y::AV.d z::(tblF (i+1)).map AV.d:=by rw [show 3+i*1=i+1+1+1 by omega,List.set_cons_succ,List.set_cons_succ,List.set_cons_succ,<-List.map_set];have:=zu0 i hil;unfold tabF at this;rw [this]
   rw [hset];refine hK _ ?_;refine zan noTab (zb _) ?_;simp only [go_sem,Nat.le_refl,List.append_toArray,List.range_zero,List.append_eq,Int.toNat_natCast,aeq,aeq.aeqF,simprocAttr];have hw:IntKind.i64.wrap ((i:Int)+1)=((i+1:Nat):Int):=by rw [IntKind.wrap_i64];omega
   refine ⟨⟨i+1,by omega⟩,?_,by simp;omega⟩;rw [hw];simp only [AS.le,leT,leH,zf,AsgK,AV.le,AV.leL,AObj.le,inH,idsT,idsH,AV.ids,AV.idsL,AV.idsR,AObj.ids,lk,hget,go_sem,Nat.le_refl,List.append_toArray,List.range_zero,List.append_eq,Int.toNat_natCast,aeq,aeq.aeqF,simprocAttr];simp [zdU,zcM,inH]
 ·refine zeM ?_;simp only [go_sem,Nat.le_refl,List.append_toArray,List.range_zero,List.append_eq,Int.toNat_natCast,aeq,aeq.aeqF,simprocAttr,Tryz.results291];have:i=256:=by simp at hc;omega
  subst this;rfl
open Go Go.Proofs
def byteS (c:Int) (b:UInt8):Int:=ibits .xor .u32 (tabF (ibits .xor .u8 (IntKind.u8.wrap c) b.toNat).toNat) (ishr .u32 c 8)
def sumS (c:Int) (l:List UInt8):Int:=l.foldl byteS c
def notS (c:Int):Int:=ibits .xor .u32 (if IntKind.u32.signed then -1 else IntKind.u32.max) c
def onceC (d m z:D) (i:Nat):List AV:= .d d:: .d m:: .d z::(tblF i).map AV.d
theorem do_ok:ACallAt Tryz.prog 1 290 [.vp 0 0,.fn (.func 291) [.vp 0 0] []] [(0,.var (onceC (.int .u32 0) (.int .i32 0) (.int .u32 0) 0))] (λr h'=>r= .tup []/\h'= [(0,.var (onceC (.int .u32 1) (.int .i32 0) (.int .u32 0) 256))]):=by
 refine zw2 (cs:=onceC (.int .u32 0) (.int .i32 0) (.int .u32 0) 0) (cs2:=onceC (.int .u32 0) (.int .i32 1) (.int .u32 0) 256) rfl rfl rfl rfl rfl ?_;refine (zqw _ _ _).whole (λi hi=>?_) (Nat.le_refl _) ?_
 ·by_cases h:i=0
  ·omega
  ·simp [hget,Ne.symm h] at hi
 ·rintro r h' ⟨rfl,rfl⟩ i hi;by_cases h:i=0
  ·subst h;rfl
  ·simp [hget,Ne.symm h] at hi
theorem zw3 (n:Int) (h0:0<=n) (h1:n<256) (d m z:D):(onceC d m z 256).getD (3+n.toNat*1) .any= .d (.int .u32 (tabF n.toNat)):=by
 have:n.toNat<256:=by omega
 unfold onceC;rw [show 3+n.toNat*1=n.toNat+1+1+1 by omega];simp only [List.getD_cons_succ];rw [List.getD_eq_getElem?_getD,List.getElem?_map];unfold tblF;rw [List.getElem?_map,List.getElem?_range this];simp [this]
theorem zw4 (x y:Int):0<=ibits .xor .u8 x y/\ibits .xor .u8 x y<256:=by unfold ibits;rw [IntKind.wrap_u8];omega
abbrev Mst (c:Int) (l:List UInt8):= { i:Nat // i<=l.length }
theorem zw5 (c:Int) (l:List UInt8) (hl:l.length<=9223372036854775807):ACall Tryz.prog 269 1 [.vp 0 0,.d (.int .u32 c),.d (.str l)] [(0,.var (onceC (.int .u32 0) (.int .i32 0) (.int .u32 0) 0))] (λr h'=>r= .d (.int .u32 (sumS c l))/\(hget h' 0).isSome):=by
 refine zaP Tryz.func269 rfl (zdn Tryz.func269 (by kernel_rfl) rfl) Tryz.ntmps269 (by simp) (λbase=>?_);refine zi noTab (zb _) (λK hK=>?_);simp only [go_sem,Nat.le_refl,List.append_toArray,List.range_zero,List.append_eq,Int.toNat_natCast,aeq,aeq.aeqF,simprocAttr];refine hK _ ?_;clear hK K;refine zi noTab (zb _) (λK hK=>?_);simp only [go_sem,Nat.le_refl,List.append_toArray,List.range_zero,List.append_eq,Int.toNat_natCast,aeq,aeq.aeqF,simprocAttr];refine do_ok.mono ?_;rintro r h' ⟨rfl,rfl⟩;refine hK _ ?_;clear hK K;refine zaM (λK2 hK2=>?_);refine zi noTab (zb _) (λK hK=>?_);simp only [go_sem,Nat.le_refl,List.append_toArray,List.range_zero,List.append_eq,Int.toNat_natCast,aeq,aeq.aeqF,simprocAttr];refine ⟨by simp [zj],hK _ ?_⟩;clear hK;refine za7 ?_;refine zq (λi:Mst c l=>⟨[(0,true,.vp 0 0),(1,true,.d (.int .u32 (sumS c (l.take i.1)))),(16,true,.osl 1 1 l.length 0 l.length),(17,true,.d (.int .i64 l.length)),(18,true,.d (.int .i64 i.1))],[(1,.arr 1 (zj l)),(0,.var (onceC (.int .u32 1) (.int .i32 0) (.int .u32 0) 256))],some []⟩) (λi=>l.length - i.1) ⟨0,Nat.zero_le _⟩ (by simp only [AS.le,leT,leH,zf,AsgK,AV.le,AV.leL,AObj.le,inH,idsT,idsH,AV.ids,AV.idsL,AV.idsR,AObj.ids,lk,hget,go_sem,Nat.le_refl,List.append_toArray,List.range_zero,List.append_eq,Int.toNat_natCast,aeq,aeq.aeqF,simprocAttr]<;>simp [onceC,zdU,zcM,inH,sumS,AV.leL,AV.le,AV.idsL,AV.ids]) (λi=>?_);obtain ⟨i,hi⟩:=i;refine zi noTab (zb _) (λK hK=>?_);simp only [go_sem,Nat.le_refl,List.append_toArray,List.range_zero,List.append_eq,Int.toNat_natCast,aeq,aeq.aeqF,simprocAttr];refine hK _ ?_;clear hK K;refine zaM (λK3 hK3=>?_);refine zbA rfl (λhc=>?_) (λhc=>?_)
 ·refine zeL ?_;simp only [go_sem,Nat.le_refl,List.append_toArray,List.range_zero,List.append_eq,Int.toNat_natCast,aeq,aeq.aeqF,simprocAttr];refine hK3 _ ?_;clear hK3 K3;have hil:i<l.length:=by simp at hc;omega
  obtain ⟨b,hb⟩:∃b,l[i]?=some b:=⟨l[i],by simp [hil]⟩
  have hrow:(zj l).getD i []= [.int .u8 b.toNat]:=by simp [zj,List.getD_eq_getElem?_getD,hb,zfk]
  have hrl:(zj l).length=l.length:=by simp [zj]
  refine zaM (λK4 hK4=>?_);refine za7 ?_;refine zi noTab (zb _) (λK hK=>?_);simp only [go_sem,Nat.le_refl,List.append_toArray,List.range_zero,List.append_eq,Int.toNat_natCast,aeq,aeq.aeqF,simprocAttr,hrow,hrl,Nat.zero_add];refine ⟨⟨by omega,by omega⟩,hil,hK _ ?_⟩;clear hK;obtain ⟨hb0,hb1⟩:=zw4 (IntKind.u8.wrap (sumS c (l.take i))) b.toNat;have htb:=zw3 (ibits .xor .u8 (IntKind.u8.wrap (sumS c (l.take i))) b.toNat) hb0 hb1 (.int .u32 1) (.int .i32 0) (.int .u32 0);have hoc:(onceC (.int .u32 1) (.int .i32 0) (.int .u32 0) 256).length=259:=by simp [onceC,zpt]
  refine zan noTab (zb _) ?_;simp only [go_sem,Nat.le_refl,List.append_toArray,List.range_zero,List.append_eq,Int.toNat_natCast,aeq,aeq.aeqF,simprocAttr,htb,hoc];refine ⟨⟨hb0,hb1⟩,by omega,hK4 _ ?_⟩;clear hK4;refine zan noTab (zb _) ?_;simp only [go_sem,Nat.le_refl,List.append_toArray,List.range_zero,List.append_eq,Int.toNat_natCast,aeq,aeq.aeqF,simprocAttr];have hw:IntKind.i64.wrap ((i:Int)+1)=((i+1:Nat):Int):=by rw [IntKind.wrap_i64];omega
  have hs:ibits .xor .u32 (tabF (ibits .xor .u8 (IntKind.u8.wrap (sumS c (l.take i))) b.toNat).toNat) (ishr .u32 (sumS c (l.take i)) 8)=sumS c (l.take (i+1)):=by rw [List.take_add_one,hb];simp [sumS,byteS]
  refine ⟨⟨i+1,by omega⟩,?_,by simp;omega⟩;rw [hw,hs];simp only [AS.le,leT,leH,zf,AsgK,AV.le,AV.leL,AObj.le,inH,idsT,idsH,AV.ids,AV.idsL,AV.idsR,AObj.ids,lk,hget,go_sem,Nat.le_refl,List.append_toArray,List.range_zero,List.append_eq,Int.toNat_natCast,aeq,aeq.aeqF,simprocAttr];simp [onceC,zdU,zcM,inH,AV.leL,AV.le,AV.idsL,AV.ids]
 ·refine zeM ?_;simp only [go_sem,Nat.le_refl,List.append_toArray,List.range_zero,List.append_eq,Int.toNat_natCast,aeq,aeq.aeqF,simprocAttr];refine hK2 _ ?_;have hil:i=l.length:=by simp at hc;omega
  subst hil;refine zi noTab (zb _) (λK hK=>?_);simp only [go_sem,Nat.le_refl,List.append_toArray,List.range_zero,List.append_eq,Int.toNat_natCast,aeq,aeq.aeqF,simprocAttr];refine hK _ ?_;clear hK K;refine zga ?_;simp only [go_sem,Nat.le_refl,List.append_toArray,List.range_zero,List.append_eq,Int.toNat_natCast,aeq,aeq.aeqF,simprocAttr,Tryz.results269]
theorem zkk (c:Int) (l:List UInt8) (hl:l.length<=9223372036854775807):ACall Tryz.prog 229 0 [.d (.int .u32 c),.d (.str l)] [] (λr _=>r= .d (.int .u32 (notS (sumS (notS c) l)))):=by
 refine zaP Tryz.func229 rfl (zdn Tryz.func229 (by kernel_rfl) rfl) Tryz.ntmps229 (by simp) (λbase=>?_);refine zi noTab (zb _) (λK hK=>?_);simp only [go_sem,Nat.le_refl,List.append_toArray,List.range_zero,List.append_eq,Int.toNat_natCast,aeq,aeq.aeqF,simprocAttr];refine hK _ ?_;clear hK K;refine zi noTab (zb _) (λK hK=>?_);simp only [go_sem,Nat.le_refl,List.append_toArray,List.range_zero,List.append_eq,Int.toNat_natCast,aeq,aeq.aeqF,simprocAttr];refine hK _ ?_;clear hK K;refine zi noTab (zb _) (λK hK=>?_);simp only [go_sem,Nat.le_refl,List.append_toArray,List.range_zero,List.append_eq,Int.toNat_natCast,aeq,aeq.aeqF,simprocAttr];refine ACallAt.mono (h:= [(0,.var (onceC (.int .u32 0) (.int .i32 0) (.int .u32 0) 0))]) (K:=λr h'=>r= .d (.int .u32 (sumS (notS c) l))/\(hget h' 0).isSome) ((zw5 (notS c) l hl).whole (λi hi=>?_) (Nat.zero_le _) ?_) ?_
 ·by_cases h:i=0
  ·omega
  ·simp [hget,Ne.symm h] at hi
 ·rintro r h' ⟨rfl,hk⟩ i hi;by_cases h:i=0
  ·subst h;exact hk
  ·simp [hget,Ne.symm h] at hi
 rintro r h' ⟨rfl,hk⟩;simp only [go_sem,Nat.le_refl,List.append_toArray,List.range_zero,List.append_eq,Int.toNat_natCast,aeq,aeq.aeqF,simprocAttr];refine hK _ ?_;clear hK K;refine zga ?_;simp only [go_sem,Nat.le_refl,List.append_toArray,List.range_zero,List.append_eq,Int.toNat_natCast,aeq,aeq.aeqF,simprocAttr,Tryz.results229];rfl
def sumOf (c:Int) (l:List UInt8):Int:=notS (sumS (notS c) l)
def tabM:Tab:=λf args=>
 if f=229 then (match args with
  | [.d (.int .u32 c),.d (.str l)]=>some (l.length<=9223372036854775807,.d (.int .u32 (sumOf c l)))
  |_=>none)
 else none
@[go_sem] theorem tabM30 (c:Int) (l:List UInt8):tabM 229 [.d (.int .u32 c),.d (.str l)]=some (l.length<=9223372036854775807,.d (.int .u32 (sumOf c l))):=rfl
theorem zw6:TabOk Tryz.prog tabM:=⟨λf args pre r h hp=>by
 unfold tabM at h;split at h
 ·rename_i hf;subst hf;split at h
  ·cases h;exact ⟨rfl,zkk _ _ hp⟩
  ·cases h
 ·cases h⟩
theorem zu2 (l:List UInt8) (hl:l.length<=9223372036854775807):ACall Tryz.prog 178 0 [.d (.str l)] [] (λr _=>r= .d (.int .u32 (sumOf 0 l))):=by refine zaP Tryz.func178 rfl (zdn Tryz.func178 (by kernel_rfl) rfl) Tryz.ntmps178 (by simp) (λbase=>?_);refine zi noTab (zb _) (λK hK=>?_);simp only [go_sem,Nat.le_refl,List.append_toArray,List.range_zero,List.append_eq,Int.toNat_natCast,aeq,aeq.aeqF,simprocAttr];refine hK _ ?_;clear hK K;refine zi tabM zw6 (λK hK=>?_);simp only [go_sem,Nat.le_refl,List.append_toArray,List.range_zero,List.append_eq,Int.toNat_natCast,aeq,aeq.aeqF,simprocAttr];refine ⟨hl,hK _ ?_⟩;clear hK K;refine zga ?_;simp only [go_sem,Nat.le_refl,List.append_toArray,List.range_zero,List.append_eq,Int.toNat_natCast,aeq,aeq.aeqF,simprocAttr,Tryz.results178]
def zcD (c:Int) (j:Nat):Int:=IntKind.u8.wrap (ishr .u32 c (IntKind.i64.wrap (24 - IntKind.i64.wrap (8*(j:Int)))))
def bcell (c:Int) (i j:Nat):AV:= .d (.int .u8 (if j<i then zcD c j else 0))
def ziQ (c:Int) (i:Nat):List AV:= [bcell c i 0,bcell c i 1,bcell c i 2,bcell c i 3]
def zfg (c:Int):List UInt8:= [UInt8.ofNat (zcD c 0).toNat,UInt8.ofNat (zcD c 1).toNat,UInt8.ofNat (zcD c 2).toNat,UInt8.ofNat (zcD c 3).toNat]
theorem znX (c:Int):ACall Tryz.prog 177 0 [.d (.int .u32 c)] [] (λr _=>r= .d (.str (zfg c))):=by
 refine zaP Tryz.func177 rfl (zdn Tryz.func177 (by kernel_rfl) rfl) Tryz.ntmps177 (by simp) (λbase=>?_);refine zi noTab (zb _) (λK hK=>?_);simp only [go_sem,Nat.le_refl,List.append_toArray,List.range_zero,List.append_eq,Int.toNat_natCast,aeq,aeq.aeqF,simprocAttr];refine hK _ ?_;clear hK K;refine zi noTab (zb _) (λK hK=>?_);simp only [go_sem,Nat.le_refl,List.append_toArray,List.range_zero,List.append_eq,Int.toNat_natCast,aeq,aeq.aeqF,simprocAttr];refine hK _ ?_;clear hK K;refine zaM (λK2 hK2=>?_);refine zi noTab (zb _) (λK hK=>?_);simp only [go_sem,Nat.le_refl,List.append_toArray,List.range_zero,List.append_eq,Int.toNat_natCast,aeq,aeq.aeqF,simprocAttr];refine hK _ ?_;clear hK K;refine za7 ?_;refine zq (λi: {i:Nat // i<=4} =>⟨[(0,true,.d (.int .u32 c)),(3,true,.vp 0 0),(5,true,.d (.int .i64 i.1))],[(0,.var (ziQ c i.1))],some []⟩) (λi=>4 - i.1) ⟨0,by omega⟩ (by simp only [AS.le,leT,leH,zf,AsgK,AV.le,AV.leL,AObj.le,inH,idsT,idsH,AV.ids,AV.idsL,AV.idsR,AObj.ids,lk,hget,go_sem,Nat.le_refl,List.append_toArray,List.range_zero,List.append_eq,Int.toNat_natCast,aeq,aeq.aeqF,simprocAttr]<;>simp [ziQ,bcell,AV.leL,AV.le,AV.idsL,AV.ids,inH]) (λi=>?_);obtain ⟨i,hi⟩:=i;refine zi noTab (zb _) (λK hK=>?_);simp only [go_sem,Nat.le_refl,List.append_toArray,List.range_zero,List.append_eq,Int.toNat_natCast,aeq,aeq.aeqF,simprocAttr];refine hK _ ?_;clear hK K;refine zaM (λK3 hK3=>?_);refine zbA rfl (λhc=>?_) (λhc=>?_)
 ·refine zeL ?_;simp only [go_sem,Nat.le_refl,List.append_toArray,List.range_zero,List.append_eq,Int.toNat_natCast,aeq,aeq.aeqF,simprocAttr];refine hK3 _ ?_;clear hK3 K3;have hil:i<4:=by simp at hc;omega
  refine zaM (λK4 hK4=>?_);refine za7 ?_;refine zi noTab (zb _) (λK hK=>?_);simp only [go_sem,Nat.le_refl,List.append_toArray,List.range_zero,List.append_eq,Int.toNat_natCast,aeq,aeq.aeqF,simprocAttr];refine hK _ ?_;clear hK K;refine zan noTab (zb _) ?_;simp only [go_sem,Nat.le_refl,List.append_toArray,List.range_zero,List.append_eq,Int.toNat_natCast,aeq,aeq.aeqF,simprocAttr]
  have hset:(ziQ c i).set (i*1) (.d (.int .u8 (zcD c i)))=ziQ c (i+1):=by
   have:i=0\/i=1\/i=2\/i=3:=by omega
   rcases this with rfl|rfl|rfl|rfl<;>rfl
  unfold zcD at hset;rw [hset];refine ⟨by simp only [IntKind.wrap_i64];omega,⟨by omega,by omega⟩,by simp [ziQ];omega,hK4 _ ?_⟩;refine zan noTab (zb _) ?_;simp only [go_sem,Nat.le_refl,List.append_toArray,List.range_zero,List.append_eq,Int.toNat_natCast,aeq,aeq.aeqF,simprocAttr];have hw:IntKind.i64.wrap ((i:Int)+1)=((i+1:Nat):Int):=by rw [IntKind.wrap_i64];omega
  refine ⟨⟨i+1,by omega⟩,?_,by simp;omega⟩;rw [hw];simp only [AS.le,leT,leH,zf,AsgK,AV.le,AV.leL,AObj.le,inH,idsT,idsH,AV.ids,AV.idsL,AV.idsR,AObj.ids,lk,hget,go_sem,Nat.le_refl,List.append_toArray,List.range_zero,List.append_eq,Int.toNat_natCast,aeq,aeq.aeqF,simprocAttr];simp [ziQ,bcell,AV.leL,AV.le,AV.idsL,AV.ids,inH]
 ·refine zeM ?_;simp only [go_sem,Nat.le_refl,List.append_toArray,List.range_zero,List.append_eq,Int.toNat_natCast,aeq,aeq.aeqF,simprocAttr];refine hK2 _ ?_;have hil:i=4:=by simp at hc;omega
  subst hil;have hb4:ziQ c 4= [.d (.int .u8 (zcD c 0)),.d (.int .u8 (zcD c 1)),.d (.int .u8 (zcD c 2)),.d (.int .u8 (zcD c 3))]:=rfl;rw [hb4];refine zi noTab (zb _) (λK hK=>?_);simp only [go_sem,Nat.le_refl,List.append_toArray,List.range_zero,List.append_eq,Int.toNat_natCast,aeq,aeq.aeqF,simprocAttr];refine ⟨rfl,hK _ ?_⟩;clear hK;refine zga ?_;simp only [go_sem,Nat.le_refl,List.append_toArray,List.range_zero,List.append_eq,Int.toNat_natCast,aeq,aeq.aeqF,simprocAttr,Tryz.results177];rfl
open Go Go.Proofs
@[go_sem] noncomputable def zfr:Ent Tryz.prog 229:= .ofL (consL (intT .u32) (consL strT nilL)) (λ(c,l,_)=>l.length<=9223372036854775807) (λ(c,l,_)=> .d (.int .u32 (notS (sumS (notS c) l)))) (λ(c,l,_) hp=>⟨rfl,zkk c l hp⟩)
@[go_sem] noncomputable def zdF:Ent Tryz.prog 178:= .ofL (consL strT nilL) (λ(l,_)=>l.length<=9223372036854775807) (λ(l,_)=> .d (.int .u32 (sumOf 0 l))) (λ(l,_) hp=>⟨rfl,zu2 l hp⟩)
@[go_sem] noncomputable def zbV:Ent Tryz.prog 177:= .ofL (consL (intT .u32) nilL) (λ(c,_)=>True) (λ(c,_)=> .d (.str (zfg c))) (λ(c,_) hp=>⟨rfl,znX c⟩)
end Go.Aw
