/-
  Parts of the proof: LibS, OnceA, OnceB, CrcA, CrcB, CrcE, CrcPB, CrcR, CrcRE, BldA, BldB, BldC, BldD, DevP, Num, DevD, PackC, SuperA, RefcC, RootB, RootC, CowF, ReachA, ViewA, ViewB, AuditA, ReachB, ShareA, SnapC (short names; the readable texts lie in the repo, under wip).
-/
import Derived.Test.YtgkjmbopnaeanaaGreatPart7
set_option maxRecDepth 100000
set_option maxHeartbeats 2000000
set_option linter.unusedSimpArgs false
set_option linter.unusedVariables false
namespace Go.Aw
open Go Go.Proofs Go.RowKit
theorem zh7 {P:Program} {f:FuncId} {args:List AV} {r:AV} {v:Value} (hen:zgb P f) (h:∀E w (vs:Array Value),Reps w E [] args vs.toList→Calls P f vs w (fun e w'=>e= .returned v∧Below w.heap.size w w')) (hr:∀w E,Rep w E [] r v):ACall P f 0 args [] (fun r' _=>r'=r):=by
 refine ⟨hen,fun E w vs hs hra=>(h E w vs hra).mono ?_⟩
 rintro e w' ⟨rfl,hb⟩
 have hno:∀b,¬Own E [] b:=fun b ⟨i,hi,_⟩=>by simp [hget] at hi
 refine ⟨v,E,r,[],rfl,rfl,⟨fun i o ho=>by simp [hget] at ho,fun i j b h1=>by simp [hget] at h1,fun b hb=>absurd hb (hno b),fun b hm=>Nat.lt_of_lt_of_le (hs.mlt b hm) hb.size,fun b hm=>Nat.lt_of_lt_of_le (hs.nlt b hm) hb.size⟩,hr w' E,?_⟩
 exact ⟨hb.os,hb.tape,hb.output,hb.size,fun k hk _=>hb.block k hk,fun b ho=> .inl ho,rfl,rfl,fun i _ hi=>by simp [hget] at hi⟩
theorem ztS (n:Nat) (hn:n≤140737488355328):ACall Tryz.prog 121 0 [.d (.str [0]),.d (.int .i64 n)] [] (fun r _=>r= .d (.str (List.replicate n 0))):=by
 refine zh7 (v:= .string ⟨(List.replicate n 0).toArray⟩) (zdn Tryz.func121 (by kernel_rfl) rfl) ?_ (fun w E=>by simp [Rep,RepD])
 intro E w vs hr
 simp only [Reps,Rep,RepD] at hr
 obtain ⟨v1,r1,e1,rfl,v2,r2,rfl,rfl,rfl⟩:=hr
 have hvs:vs= #[.string ⟨#[0]⟩,.int .i64 n]:=by cases vs;simpa using e1
 subst hvs
 have:=Tryz.strings_Repeat ⟨#[0]⟩ n w (by omega) (by simpa [ByteArray.size] using hn)
 refine this.mono ?_
 rintro e w' ⟨rfl,hb⟩
 refine ⟨?_,hb⟩
 have:=Lib.repeatL_replicate 0 1 n
 simp only [List.replicate_one,Nat.mul_one,Nat.one_mul] at this
 show Ending.returned (.string ⟨(Lib.repeatL [0] n).toArray⟩)=_
 rw [this]
theorem zlq (s p:List UInt8) (_:True):AC 141 [.d (.str s),.d (.str p)] (.d (.bool (p.isPrefixOf s))):=by
 refine zh7 (v:= .bool (p.isPrefixOf s)) (zdn Tryz.func141 (by kernel_rfl) rfl) ?_ (fun w E=>by simp [Rep,RepD])
 intro E w vs hr
 simp only [Reps,Rep,RepD] at hr
 obtain ⟨v1,r1,e1,rfl,v2,r2,rfl,rfl,rfl⟩:=hr
 have hvs:vs= #[.string ⟨s.toArray⟩,.string ⟨p.toArray⟩]:=by cases vs;simpa using e1
 subst hvs
 have:=Tryz.strings_HasPrefix ⟨s.toArray⟩ ⟨p.toArray⟩ w
 refine this.mono ?_
 rintro e w' ⟨rfl,rfl⟩
 exact ⟨by simp [Lib.hasPrefix],Below.refl _ _⟩
@[go_sem] noncomputable def zfP:Ent Tryz.prog 141:= .m2 strT strT zlq
end Go.Aw
namespace Go.Proofs.YtgkjmbopnaeanaaGreat
open Go Go.RowKit
theorem disable (w:World):(callFunc 296 #[]).run Tryz.prog w= .ok (.value (.tuple #[])) w:=run_call_mark0 Tryz.func296 (by kernel_rfl) (by kernel_rfl) (by kernel_rfl) .disable (by kernel_rfl) w
theorem enable (w:World):(callFunc 298 #[]).run Tryz.prog w= .ok (.value (.tuple #[])) w:=run_call_mark0 Tryz.func298 (by kernel_rfl) (by kernel_rfl) (by kernel_rfl) .enable (by kernel_rfl) w
theorem acquire (a:Addr) (w:World):(callFunc 299 #[.pointer (some a)]).run Tryz.prog w= .ok (.value (.tuple #[])) w:=run_call_marked Tryz.func299 (by kernel_rfl) (by kernel_rfl) (by kernel_rfl) .acquire (by kernel_rfl) a w
theorem releaseMerge (a:Addr) (w:World):(callFunc 301 #[.pointer (some a)]).run Tryz.prog w= .ok (.value (.tuple #[])) w:=run_call_marked Tryz.func301 (by kernel_rfl) (by kernel_rfl) (by kernel_rfl) .releaseMerge (by kernel_rfl) a w
theorem zi7 (a:Addr) (x:Value) (u:FrameMode) (w:World) (hc:w.cell? a=some x) (hz:w.frozen? a=false):
  CallsD Tryz.prog 287 #[.pointer (some a),.bool true] u w fun e u' w'=>u'=u∧(e= .returned (.tuple #[])∧w'=w.drew.setCell a (.int .u32 1)):=by
 have hc':w.drew.cell? a=some x:=by go_simp
 have hz':w.drew.frozen? a=false:=by go_simp
 have hst:=run_call_store (P:=Tryz.prog) Tryz.func294 (by kernel_rfl) (by kernel_rfl) (by kernel_rfl) (by kernel_rfl) (k:= .u32) (y:=1) hc' hz'
 go_enter_d Tryz.func287,Tryz.ntmps287
 go_wp2
 go_region_calls
 all_goals (go_end0;exact ⟨rfl,rfl⟩)
theorem zlN (a:Addr) (w:World) (hc:w.cell? a=some (.int .i32 1)) (hz:w.frozen? a=false):
  Calls Tryz.prog 293 #[.pointer (some a)] w fun e w'=>e= .returned (.tuple #[])∧w'=w.setCell a (.int .i32 0):=by
 have hd:=disable
 have he:=enable
 have hr:=releaseMerge
 have hadd:=run_call_add (P:=Tryz.prog) Tryz.func302 (by kernel_rfl) (by kernel_rfl) (by kernel_rfl) .i32 (by kernel_rfl) (y:= -1) (s:=0) hc hz (by simp [go_sem];rfl)
 have hcv:=run_convert_to_unsafe (P:=Tryz.prog) (src:=385) (dst:=182) Tryz.underlying385 Tryz.underlying182 (by kernel_rfl) hc
 go_enter Tryz.func293,Tryz.ntmps293
 go_wp2
 go_end0
 exact ⟨rfl,rfl⟩
theorem zif (a:Addr) (u:FrameMode) (w:World) (hc:w.cell? a=some (.int .i32 1)) (hz:w.frozen? a=false):
  CallsD Tryz.prog 286 #[.pointer (some a)] u w fun e u' w'=>u'=u∧(e= .returned (.tuple #[])∧w'=w.setCell a (.int .i32 0)):=by
 go_enter_d Tryz.func286,Tryz.ntmps286
 go_wp2_with (go_at_call 293;refine (zlN a _ (by go_simp) (by go_simp)).mono ?_;rintro e w' ⟨rfl,rfl⟩)
 go_end0
 exact ⟨rfl,rfl⟩
theorem zp4 (a:Addr) (w:World) (hc:w.cell? a=some (.int .i32 0)) (hz:w.frozen? a=false):
  Calls Tryz.prog 292 #[.pointer (some a)] w fun e w'=>e= .returned (.tuple #[])∧w'=w.setCell a (.int .i32 1):=by
 have hd:=disable
 have he:=enable
 have ha:=acquire
 have hcas:=run_call_cas_hit (P:=Tryz.prog) Tryz.func297 (by kernel_rfl) (by kernel_rfl) (by kernel_rfl) .i32 (by kernel_rfl) (y:=1) hc hz
 have hc':(w.setCell a (.int .i32 1)).cell? a=some (.int .i32 1):=World.cell?_setCell_same w a _ hc
 have hcv:=run_convert_to_unsafe (P:=Tryz.prog) (src:=385) (dst:=182) Tryz.underlying385 Tryz.underlying182 (by kernel_rfl) hc'
 go_enter Tryz.func292,Tryz.ntmps292
 go_wp2
 first|go_end0|(simp only [Exit.inBlock,Exit.then];refine bodyPost_ret (results_none rfl _ _ _) rfl ?_)|refine bodyPost_ret (results_none rfl _ _ _) rfl ?_
 exact ⟨rfl,rfl⟩
theorem zr7 (a:Addr) (w:World) (hc:w.cell? a=some (.int .i32 0)) (hz:w.frozen? a=false):
  Calls Tryz.prog 285 #[.pointer (some a)] w fun e w'=>e= .returned (.tuple #[])∧w'=w.setCell a (.int .i32 1):=by
 go_enter Tryz.func285,Tryz.ntmps285
 go_wp2_with (go_at_call 292;refine (zp4 a _ (by go_simp) (by go_simp)).mono ?_;rintro e w' ⟨rfl,rfl⟩)
 go_end0
 exact ⟨rfl,rfl⟩
theorem zlO (a:Addr) (x:Int) (w:World) (hc:w.cell? a=some (.int .u32 x)):
  Calls Tryz.prog 274 #[.pointer (some a)] w fun e w'=>e= .returned (.bool (x !=0))∧w'=w:=by
 have hl:=run_call_load (P:=Tryz.prog) Tryz.func284 (by kernel_rfl) (by kernel_rfl) (by kernel_rfl) .u32 (by kernel_rfl) hc
 go_enter Tryz.func274,Tryz.ntmps274
 go_wp2
 go_ret
 exact ⟨rfl,rfl⟩
set_option maxHeartbeats 1600000 in
theorem zuh (b off:Nat) (p:Value) (w:World) (R:World→Prop)
  (h0:w.cell? ⟨b,off,none⟩=some (.int .u32 0)) (h1:w.cell? ⟨b,off+1,none⟩=some (.int .i32 0)) (f0:w.frozen? ⟨b,off,none⟩=false) (f1:w.frozen? ⟨b,off+1,none⟩=false)
  (hf:Calls Tryz.prog 250 #[p] (w.setCell ⟨b,off+1,none⟩ (.int .i32 1)) fun e w2=>e= .returned (.tuple #[])∧R w2)
  (hR:∀w2,R w2→w2.cell? ⟨b,off,none⟩=some (.int .u32 0)∧w2.cell? ⟨b,off+1,none⟩=some (.int .i32 1)∧w2.frozen? ⟨b,off,none⟩=false∧w2.frozen? ⟨b,off+1,none⟩=false):
  Calls Tryz.prog 275 #[.pointer (some ⟨b,off,none⟩),.func (.func 250) #[p] #[]] w fun e w'=>e= .returned (.tuple #[])∧
   ∃w2,R w2∧w'=(w2.drew.setCell ⟨b,off,none⟩ (.int .u32 1)).setCell ⟨b,off+1,none⟩ (.int .i32 0):=by
 have hnot:∀ (x:Bool) (w:World),(Op.unary .not (.bool x)).run Tryz.prog w= .ok (.bool (!x)) w:=fun _ _=>rfl
 have hld:(w.setCell ⟨b,off+1,none⟩ (.int .i32 1)).cell? ⟨b,off,none⟩=some (.int .u32 0):=(World.cell?_setCell_other _ ⟨b,off+1,none⟩ ⟨b,off,none⟩ _ (by simp)).trans h0
 go_enter_defers Tryz.func275,Tryz.ntmps275
 go_wp2_with (first
  |(go_at_call 285;refine (zr7 ⟨b,off+1,none⟩ _ (by go_simp) (by go_simp)).mono ?_;rintro e w' ⟨rfl,rfl⟩)
  |(go_at_call 274;refine (zlO ⟨b,off,none⟩ 0 _ hld).mono ?_;rintro e w' ⟨rfl,rfl⟩)
  |(go_at_call 250;refine hf.mono ?_;rintro e w2 ⟨rfl,hr⟩))
 obtain ⟨g0,g1,g2,g3⟩:=hR w2 hr
 refine leaves_cons (f:=287) (args:= #[.pointer (some ⟨b,off,none⟩),.bool true]) (by simp) (by simp [go_sem]) ?_
 refine (zi7 ⟨b,off,none⟩ (.int .u32 0) .returning _ g0 g2).mono ?_
 rintro e u' w'' ⟨rfl,rfl,rfl⟩
 refine leaves_cons (f:=286) (args:= #[.pointer (some ⟨b,off+1,none⟩)]) (by simp [settle]) (by simp [go_sem]) ?_
 refine (zif ⟨b,off+1,none⟩ _ _ ?_ (by simp [g3])).mono ?_
 ·refine (World.cell?_setCell_other _ ⟨b,off,none⟩ ⟨b,off+1,none⟩ _ (by simp)).trans ?_
  rw [World.cell?_drew]
  exact g1
 rintro e u' w'' ⟨rfl,rfl,rfl⟩
 simp only [Leaves,settle]
 exact ⟨.tuple #[],by simp [results,Tryz.results275],rfl,w2,hr,rfl⟩
set_option maxHeartbeats 1600000 in
theorem do_first (b off:Nat) (p:Value) (w:World) (R:World→Prop)
  (h0:w.cell? ⟨b,off,none⟩=some (.int .u32 0)) (h1:w.cell? ⟨b,off+1,none⟩=some (.int .i32 0)) (f0:w.frozen? ⟨b,off,none⟩=false) (f1:w.frozen? ⟨b,off+1,none⟩=false)
  (hf:Calls Tryz.prog 250 #[p] (w.setCell ⟨b,off+1,none⟩ (.int .i32 1)) fun e w2=>e= .returned (.tuple #[])∧R w2)
  (hR:∀w2,R w2→w2.cell? ⟨b,off,none⟩=some (.int .u32 0)∧w2.cell? ⟨b,off+1,none⟩=some (.int .i32 1)∧w2.frozen? ⟨b,off,none⟩=false∧w2.frozen? ⟨b,off+1,none⟩=false):
  Calls Tryz.prog 249 #[.pointer (some ⟨b,off,none⟩),.func (.func 250) #[p] #[]] w fun e w'=>e= .returned (.tuple #[])∧
   ∃w2,R w2∧w'=(w2.drew.setCell ⟨b,off,none⟩ (.int .u32 1)).setCell ⟨b,off+1,none⟩ (.int .i32 0):=by
 have hnot:∀ (x:Bool) (w:World),(Op.unary .not (.bool x)).run Tryz.prog w= .ok (.bool (!x)) w:=fun _ _=>rfl
 go_enter Tryz.func249,Tryz.ntmps249
 go_wp2_with (first
  |(go_at_call 274;refine (zlO ⟨b,off,none⟩ 0 _ h0).mono ?_;rintro e w' ⟨rfl,rfl⟩)
  |(go_at_call 275;refine (zuh b off p _ R h0 h1 f0 f1 hf hR).mono ?_;rintro e w' ⟨rfl,w2,hr,rfl⟩))
 go_end0
 exact ⟨rfl,w2,hr,rfl⟩
end Go.Proofs.YtgkjmbopnaeanaaGreat
namespace Go.Aw
open Go Go.Proofs
section
variable {P : Program} {w w' : World} {E E' : Env} {h h' : AHeap}
theorem zig:∀ (h:AHeap) (i:Nat) (a b:AObj),hset (hset h i a) i b=hset h i b
  | [],_,_,_=>rfl
  | (k,o)::r,i,a,b=>by
    by_cases hk:k=i
    · simp [hset,hk]
    · simp [hset,hk,zig r]
theorem zaN {h:AHeap} {i j:Nat} {o:AObj} (hi:(hget h i).isSome):(hget (hset h i o) j).isSome=(hget h j).isSome:=by
 by_cases hj:j=i
 ·subst hj
  obtain ⟨x,hx⟩:=Option.isSome_iff_exists.1 hi
  rw [zg hx,hx]
  rfl
 ·rw [zJ hj]
theorem poke (hs:SatH E h w) {i o b:Nat} {cs:List AV} (hi:hget h i=some (.var cs)) (hb:E.O i=some b) {x:AV} {v:Value} (hr:Rep w E h x v):
  Chg E h w E (hset h i (.var (cs.set o x))) (w.setCell ⟨b,o,none⟩ v) i∧SatH E (hset h i (.var (cs.set o x))) (w.setCell ⟨b,o,none⟩ v):=by
 have hob:=hs.heap i _ hi
 simp only [RepObj] at hob
 obtain ⟨b',c,T,fz,g1,g2,g3,g4⟩:=hob
 rw [hb] at g1;cases g1
 rw [zeu g2]
 have ch:=zmS hs hi (cs':=cs.set o x) (by simp) hb (.cells (c.setIfInBounds o v) T fz)
 refine ⟨ch,ch.satH hs (fun ob hob=>?_)⟩
 rw [zg hi] at hob
 cases hob
 simp only [RepObj]
 refine ⟨b,_,T,fz,hb,zee (Array.getElem?_eq_some_iff.1 g2).1,?_,by simpa using g4⟩
 rw [Array.toList_setIfInBounds]
 exact ch.reps (g3.set hr)
theorem zhF {i:Nat} {o:AObj} (hi:(hget h i).isSome) {b:Nat} :Own E (hset h i o) b↔Own E h b:=by
 unfold Own
 constructor
 ·rintro ⟨j,h1,h2⟩;exact ⟨j,by rwa [zaN hi] at h1,h2⟩
 ·rintro ⟨j,h1,h2⟩;exact ⟨j,by rwa [zaN hi],h2⟩
end
section
variable {h : AHeap}
theorem zwo {fl i:Nat} {cs cs2:List AV} (hi:hget h i=some (.var cs)) (c0:cs[0]?=some (.d (.int .u32 0))) (c1:cs[1]?=some (.d (.int .i32 0)))
  (d0:cs2[0]?=some (.d (.int .u32 0))) (d1:cs2[1]?=some (.d (.int .i32 1)))
  (hf:ACallAt Tryz.prog fl 250 [.vp i 0] (hset h i (.var (cs.set 1 (.d (.int .i32 1))))) (fun r h'=>r= .tup []∧h'=hset h i (.var cs2))):
  ACallAt Tryz.prog fl 249 [.vp i 0,.fn (.func 250) [.vp i 0] []] h (fun r h'=>r= .tup []∧h'=hset h i (.var ((cs2.set 0 (.d (.int .u32 1))).set 1 (.d (.int .i32 0))))):=by
 refine ⟨zdn Tryz.func249 (by kernel_rfl) rfl,fun E w vs hs hr=>?_⟩
 simp only [Reps] at hr
 obtain ⟨v0,r0,e0,q0,v1,r1,rfl,q1,rfl⟩:=hr
 simp only [Rep,Reps] at q1
 obtain ⟨fa,fb,rfl,⟨u,r2,e2,q2,rfl⟩,e3⟩:=q1
 have q0':=q0
 simp only [Rep] at q0 q2
 obtain ⟨b,cs',hi',hb,rfl⟩:=q0
 obtain ⟨b',cs'',hi'',hb',rfl⟩:=q2
 rw [hb] at hb';cases hb'
 have hfa:fa= #[.pointer (some ⟨b,0,none⟩)]:=by cases fa;simpa using e2
 have hfb:fb= #[]:=by cases fb;simpa using e3
 subst hfa hfb
 have hvs:vs= #[.pointer (some ⟨b,0,none⟩),.func (.func 250) #[.pointer (some ⟨b,0,none⟩)] #[]]:=by cases vs;simpa using e0
 subst hvs
 have look:∀ {E:Env} {h:AHeap} {w:World} {xs:List AV},SatH E h w→hget h i=some (.var xs)→E.O i=some b→∀ (o:Nat) (k:IntKind) (n:Int),xs[o]?=some (.d (.int k n))→w.cell? ⟨b,o,none⟩=some (.int k n)∧w.frozen? ⟨b,o,none⟩=false:=by
  intro E h w xs hs hi hb o k n ho
  have hob:=hs.heap i _ hi
  simp only [RepObj] at hob
  obtain ⟨b',c,T,fz,g1,g2,g3,g4⟩:=hob
  rw [hb] at g1;cases g1
  obtain ⟨v,h1,h2⟩:=Reps.get g3 ho
  simp only [Rep,RepD] at h2
  subst h2
  have h1':c[o]?=some (.int k n):=by simpa using h1
  have hlt:=(Array.getElem?_eq_some_iff.1 h1').1
  refine ⟨by rw [zao g2];exact h1',?_⟩
  rw [zdL g2]
  have:=g4 o hlt
  simpa using this
 obtain ⟨a0,z0⟩:=look hs hi hb 0 _ _ c0
 obtain ⟨a1,z1⟩:=look hs hi hb 1 _ _ c1
 obtain ⟨ch1,hs1⟩:=poke hs hi hb (o:=1) (x:= .d (.int .i32 1)) (v:= .int .i32 1) (by simp [Rep,RepD])
 have hsome:(hget h i).isSome:=by simp [hi]
 have hp1:Rep (w.setCell ⟨b,1,none⟩ (.int .i32 1)) E (hset h i (.var (cs.set 1 (.d (.int .i32 1))))) (.vp i 0) (.pointer (some ⟨b,0,none⟩)):=ch1.rep q0'
 have hfill:=hf.2 E _ #[.pointer (some ⟨b,0,none⟩)] hs1 (by simp only [Reps];exact ⟨_,_,rfl,hp1,rfl⟩)
 let R:World→Prop:=fun w2=>∃E2,SatH E2 (hset h i (.var cs2)) w2∧EvoC fl E (hset h i (.var (cs.set 1 (.d (.int .i32 1))))) (w.setCell ⟨b,1,none⟩ (.int .i32 1)) E2 (hset h i (.var cs2)) w2∧
  (∀x y,Rep (w.setCell ⟨b,1,none⟩ (.int .i32 1)) E (hset h i (.var (cs.set 1 (.d (.int .i32 1))))) x y→Rep w2 E2 (hset h i (.var cs2)) x y)
 have hO:∀ {w2 E2},(∀x y,Rep (w.setCell ⟨b,1,none⟩ (.int .i32 1)) E (hset h i (.var (cs.set 1 (.d (.int .i32 1))))) x y→Rep w2 E2 (hset h i (.var cs2)) x y)→E2.O i=some b:=by
  intro w2 E2 hrep
  have:=hrep _ _ hp1
  simp only [Rep] at this
  obtain ⟨b2,_,_,h1,h2⟩:=this
  have:b=b2:=by
   have:=Value.pointer.inj h2
   have:=Option.some.inj this
   exact congrArg Addr.block this
  rw [h1,this]
 have hget2:hget (hset h i (.var cs2)) i=some (.var cs2):=zg hi
 refine (Go.Proofs.YtgkjmbopnaeanaaGreat.do_first b 0 (.pointer (some ⟨b,0,none⟩)) w R a0 a1 z0 z1 (hfill.mono ?_) ?_).mono ?_
 ·rintro e w2 ⟨v,E2,r,h2,rfl,⟨rfl,rfl⟩,g1,g2,g3,g4⟩
  simp only [Rep,Reps] at g2
  obtain ⟨vs,rfl,g5⟩:=g2
  have:vs= #[]:=by cases vs;simpa using g5
  subst this
  exact ⟨rfl,E2,g1,g3,g4⟩
 ·rintro w2 ⟨E2,g1,g2,g3⟩
  obtain ⟨x0,y0⟩:=look g1 hget2 (hO g3) 0 _ _ d0
  obtain ⟨x1,y1⟩:=look g1 hget2 (hO g3) 1 _ _ d1
  exact ⟨x0,x1,y0,y1⟩
 ·rintro e w3 ⟨rfl,w2,⟨E2,g1,g2,g3⟩,rfl⟩
  have hb2:=hO g3
  have hsd:SatH E2 (hset h i (.var cs2)) w2.drew:=g1.refit ⟨rfl,rfl,rfl,rfl,fun _ _=>rfl,fun _ _ h _ _=>h⟩ (base:=0) rfl rfl (fun _ _ h=>h) (fun b hb=>(g1.own b hb).2) g1.mlt g1.nlt
  obtain ⟨ch2,hs2⟩:=poke hsd hget2 hb2 (o:=0) (x:= .d (.int .u32 1)) (v:= .int .u32 1) (by simp [Rep,RepD])
  have hget3:hget (hset (hset h i (.var cs2)) i (.var (cs2.set 0 (.d (.int .u32 1))))) i=some (.var (cs2.set 0 (.d (.int .u32 1)))):=zg hget2
  obtain ⟨ch3,hs3⟩:=poke hs2 hget3 hb2 (o:=1) (x:= .d (.int .i32 0)) (v:= .int .i32 0) (by simp [Rep,RepD])
  have hrep3:∀x y,Rep w2 E2 (hset h i (.var cs2)) x y→Rep _ E2 _ x y:=fun x y hxy=>
   ch3.rep (ch2.rep (Rep.step (W:=w2) (W':=w2.drew) (fun _ _ h=>h) (fun _ _ _=>rfl) x y (fun j _=>GoesOn.refl E2 _ j) hxy))
  have hs2some:(hget (hset h i (.var cs2)) i).isSome:=by simp [hget2]
  have hs3some:(hget (hset (hset h i (.var cs2)) i (.var (cs2.set 0 (.d (.int .u32 1))))) i).isSome:=by simp [hget3]
  have e4:hset (hset (hset h i (.var cs2)) i (.var (cs2.set 0 (.d (.int .u32 1))))) i (.var ((cs2.set 0 (.d (.int .u32 1))).set 1 (.d (.int .i32 0))))=hset h i (.var ((cs2.set 0 (.d (.int .u32 1))).set 1 (.d (.int .i32 0)))):=by rw [zig,zig]
  refine ⟨.tuple #[],E2,.tup [],_,rfl,⟨rfl,rfl⟩,e4 ▸ hs3,by simp [Rep,Reps],?_,fun x y hxy=>e4 ▸ hrep3 x y (g3 x y (ch1.rep hxy))⟩
  have hown:∀b',b'<w.heap.size→¬Own E h b'→w2.heap[b']?=w.heap[b']?:=fun b' hb' hno=>
   (g2.keep b' (by simpa using hb') (fun ho=>hno ((zhF hsome).1 ho))).trans (ch1.blk b' hb' (fun ⟨h1,h2⟩=>hno ⟨i,h1,h2⟩))
  have hsz:w.heap.size≤w2.heap.size:=Nat.le_trans ch1.size g2.size
  refine ⟨?_,?_,?_,?_,fun b' hb' hno=>?_,fun b' ho=>?_,g2.m,g2.n,fun j hj hjs=>?_⟩
  ·exact ch3.os.trans (ch2.os.trans (g2.os.trans ch1.os))
  ·exact ch3.tape.trans (ch2.tape.trans (g2.tape.trans ch1.tape))
  ·exact ch3.output.trans (ch2.output.trans (g2.output.trans ch1.output))
  ·exact Nat.le_trans hsz (Nat.le_trans ch2.size ch3.size)
  ·have hne:¬E2.O i=some b':=fun e=>by
    rw [hb2] at e;cases e
    exact hno ⟨i,hsome,hb⟩
   have h1:b'<w2.drew.heap.size:=Nat.lt_of_lt_of_le hb' hsz
   rw [ch3.blk b' (Nat.lt_of_lt_of_le h1 ch2.size) (fun h=>hne h.2),ch2.blk b' h1 (fun h=>hne h.2)]
   exact hown b' hb' hno
  ·rw [zhF hsome] at ho
   have ho2:Own E2 (hset h i (.var cs2)) b':=(zhF hsome).2 ho
   rcases g2.own b' ho2 with h1|h1
   ·exact .inl ((zhF hsome).1 h1)
   ·exact .inr (by simpa using h1)
  ·rw [zaN hsome] at hjs
   have hj2:(hget (hset h i (.var cs2)) j).isSome:=by rwa [zaN hsome]
   obtain ⟨p1,p2⟩:=g2.go j hj hj2
   refine ⟨hjs,?_⟩
   have p3:=(ch1.goesOn j).trans p2
   have p4:=p3.trans ((ch2.goesOn j).trans (ch3.goesOn j))
   exact e4 ▸ p4
end
open Go Go.Proofs
def bitT (c:Int):Int:=ibits .xor .u32 (ishr .u32 c 1) (IntKind.u32.wrap (ibits .and .u32 c 1*2197175160))
def bitsT:Nat→Int→Int
 |0,c=>c
 |n+1,c=>bitT (bitsT n c)
def tabF (j:Nat):Int:=bitsT 8 (IntKind.u32.wrap j)
def tblF (i:Nat):List D:=(List.range 256).map fun j=>D.int .u32 (if j<i then tabF j else 0)
theorem zo3 (i:Nat):(tblF i).length=256:=by simp [tblF]
theorem zug (i:Nat) (hi:i<256):(tblF i).set i (.int .u32 (tabF i))=tblF (i+1):=by
 apply List.ext_getElem?
 intro j
 rw [List.getElem?_set]
 unfold tblF
 simp only [List.length_map,List.length_range,List.getElem?_map]
 by_cases hj:i=j
 ·subst hj
  simp [hi]
 ·rw [if_neg hj]
  by_cases hj2:j<256
  ·rw [List.getElem?_range hj2]
   simp only [Option.map_some,Option.some.injEq,D.int.injEq,true_and]
   by_cases h1:j<i
   ·rw [if_pos h1,if_pos (by omega)]
   ·rw [if_neg h1,if_neg (by omega)]
  ·simp [hj2]
theorem zdX:∀ (l:List D),AV.leL (l.map AV.d) (l.map AV.d)
 | []=>by simp [AV.leL]
 |x::l=>by simp only [List.map_cons,AV.leL,AV.le,true_and];exact zdX l
theorem zp3 (x y z:D):ACall Tryz.prog 250 1 [.vp 0 0] [(0,.var (.d x:: .d y:: .d z::(tblF 0).map AV.d))] (fun r h'=>r= .tup []∧h'= [(0,.var (.d x:: .d y:: .d z::(tblF 256).map AV.d))]):=by
 refine zaI Tryz.func250 rfl (zdn Tryz.func250 (by kernel_rfl) rfl) Tryz.ntmps250 (by simp) (fun base=>?_)
 refine zh noTab (zb _) (fun K hK=>?_);simp only [go_sem,Nat.le_refl,List.append_toArray,List.range_zero,List.append_eq,Int.toNat_natCast,aeq,aeq.aeqF,simprocAttr]
 refine hK _ ?_;clear hK K
 refine zaZ ?_
 refine zo (fun i: {i:Nat // i≤256} =>⟨[(0,true,.vp 0 0),(4,true,.d (.int .i64 i.1))],[(0,.var (.d x:: .d y:: .d z::(tblF i.1).map AV.d))],some []⟩) (fun i=>256 - i.1) ⟨0,by omega⟩ (by simp only [AS.le,leT,leH,zf,AsgK,AV.le,AV.leL,AObj.le,inH,idsT,idsH,AV.ids,AV.idsL,AV.idsR,AObj.ids,lk,hget,go_sem,Nat.le_refl,List.append_toArray,List.range_zero,List.append_eq,Int.toNat_natCast,aeq,aeq.aeqF,simprocAttr]<;>simp [zdX,zcn,inH]) (fun i=>?_)
 obtain ⟨i,hi⟩:=i
 refine zh noTab (zb _) (fun K hK=>?_);simp only [go_sem,Nat.le_refl,List.append_toArray,List.range_zero,List.append_eq,Int.toNat_natCast,aeq,aeq.aeqF,simprocAttr]
 refine hK _ ?_;clear hK K
 refine zae (fun K hK=>?_)
 refine zar rfl (fun hc=>?_) (fun hc=>?_)
 ·refine zeq ?_;simp only [go_sem,Nat.le_refl,List.append_toArray,List.range_zero,List.append_eq,Int.toNat_natCast,aeq,aeq.aeqF,simprocAttr];refine hK _ ?_;clear hK K
  have hil:i<256:=by simp at hc;omega
  refine zae (fun K hK=>?_)
  refine zaZ ?_
  refine zh noTab (zb _) (fun K hK=>?_);simp only [go_sem,Nat.le_refl,List.append_toArray,List.range_zero,List.append_eq,Int.toNat_natCast,aeq,aeq.aeqF,simprocAttr]
  refine hK _ ?_;clear hK K
  refine zh noTab (zb _) (fun K hK=>?_);simp only [go_sem,Nat.le_refl,List.append_toArray,List.range_zero,List.append_eq,Int.toNat_natCast,aeq,aeq.aeqF,simprocAttr]
  refine hK _ ?_;clear hK K
  refine zae (fun K2 hK2=>?_)
  refine zh noTab (zb _) (fun K hK=>?_);simp only [go_sem,Nat.le_refl,List.append_toArray,List.range_zero,List.append_eq,Int.toNat_natCast,aeq,aeq.aeqF,simprocAttr]
  refine hK _ ?_;clear hK K
  refine zaZ ?_
  refine zo (fun k: {k:Nat // k≤8} =>⟨[(0,true,.vp 0 0),(4,true,.d (.int .i64 i)),(2,true,.d (.int .i64 i)),(3,true,.d (.int .u32 (bitsT k.1 (IntKind.u32.wrap i)))),(9,true,.d (.int .i64 k.1))],[(0,.var (.d x:: .d y:: .d z::(tblF i).map AV.d))],some []⟩) (fun k=>8 - k.1) ⟨0,by omega⟩ (by simp only [AS.le,leT,leH,zf,AsgK,AV.le,AV.leL,AObj.le,inH,idsT,idsH,AV.ids,AV.idsL,AV.idsR,AObj.ids,lk,hget,go_sem,Nat.le_refl,List.append_toArray,List.range_zero,List.append_eq,Int.toNat_natCast,aeq,aeq.aeqF,simprocAttr]<;>simp [zdX,zcn,inH,bitsT]) (fun k=>?_)
  obtain ⟨k,hk⟩:=k
  refine zh noTab (zb _) (fun K hK=>?_);simp only [go_sem,Nat.le_refl,List.append_toArray,List.range_zero,List.append_eq,Int.toNat_natCast,aeq,aeq.aeqF,simprocAttr]
  refine hK _ ?_;clear hK K
  refine zae (fun K3 hK3=>?_)
  refine zar rfl (fun hc=>?_) (fun hc=>?_)
  ·refine zeq ?_;simp only [go_sem,Nat.le_refl,List.append_toArray,List.range_zero,List.append_eq,Int.toNat_natCast,aeq,aeq.aeqF,simprocAttr];refine hK3 _ ?_;clear hK3 K3
   have hkl:k<8:=by simp at hc;omega
   refine zae (fun K hK=>?_)
   refine zaZ ?_
   refine zax noTab (zb _) ?_;simp only [go_sem,Nat.le_refl,List.append_toArray,List.range_zero,List.append_eq,Int.toNat_natCast,aeq,aeq.aeqF,simprocAttr]
   refine hK _ ?_;clear hK K
   refine zax noTab (zb _) ?_;simp only [go_sem,Nat.le_refl,List.append_toArray,List.range_zero,List.append_eq,Int.toNat_natCast,aeq,aeq.aeqF,simprocAttr]
   have hw:IntKind.i64.wrap ((k:Int)+1)=((k+1:Nat):Int):=by rw [IntKind.wrap_i64];omega
   refine ⟨⟨k+1,by omega⟩,?_,by simp;omega⟩
   rw [hw]
   simp only [AS.le,leT,leH,zf,AsgK,AV.le,AV.leL,AObj.le,inH,idsT,idsH,AV.ids,AV.idsL,AV.idsR,AObj.ids,lk,hget,go_sem,Nat.le_refl,List.append_toArray,List.range_zero,List.append_eq,Int.toNat_natCast,aeq,aeq.aeqF,simprocAttr]
   simp [zdX,zcn,inH,bitsT,bitT]
  ·refine zer ?_;simp only [go_sem,Nat.le_refl,List.append_toArray,List.range_zero,List.append_eq,Int.toNat_natCast,aeq,aeq.aeqF,simprocAttr];refine hK2 _ ?_
   have hk8:k=8:=by simp at hc;omega
   subst hk8
   refine zax noTab (zb _) ?_;simp only [go_sem,Nat.le_refl,List.append_toArray,List.range_zero,List.append_eq,Int.toNat_natCast,aeq,aeq.aeqF,simprocAttr]
   refine ⟨⟨by omega,by omega⟩,by simp [zo3];omega,?_⟩
   have hset:(AV.d x::AV.d y::AV.d z::(tblF i).map AV.d).set (3+i*1) (.d (.int .u32 (bitsT 8 (IntKind.u32.wrap i))))=AV.d x::AV.d y::AV.d z::(tblF (i+1)).map AV.d:=by
    rw [show 3+i*1=i+1+1+1 by omega,List.set_cons_succ,List.set_cons_succ,List.set_cons_succ,← List.map_set]
    have:=zug i hil
    unfold tabF at this
    rw [this]
   rw [hset]
   refine hK _ ?_
   refine zax noTab (zb _) ?_;simp only [go_sem,Nat.le_refl,List.append_toArray,List.range_zero,List.append_eq,Int.toNat_natCast,aeq,aeq.aeqF,simprocAttr]
   have hw:IntKind.i64.wrap ((i:Int)+1)=((i+1:Nat):Int):=by rw [IntKind.wrap_i64];omega
   refine ⟨⟨i+1,by omega⟩,?_,by simp;omega⟩
   rw [hw]
   simp only [AS.le,leT,leH,zf,AsgK,AV.le,AV.leL,AObj.le,inH,idsT,idsH,AV.ids,AV.idsL,AV.idsR,AObj.ids,lk,hget,go_sem,Nat.le_refl,List.append_toArray,List.range_zero,List.append_eq,Int.toNat_natCast,aeq,aeq.aeqF,simprocAttr]
   simp [zdX,zcn,inH]
 ·refine zer ?_
  simp only [go_sem,Nat.le_refl,List.append_toArray,List.range_zero,List.append_eq,Int.toNat_natCast,aeq,aeq.aeqF,simprocAttr,Tryz.results250]
  have:i=256:=by simp at hc;omega
  subst this
  rfl
open Go Go.Proofs
def byteS (c:Int) (b:UInt8):Int:=ibits .xor .u32 (tabF (ibits .xor .u8 (IntKind.u8.wrap c) b.toNat).toNat) (ishr .u32 c 8)
def sumS (c:Int) (l:List UInt8):Int:=l.foldl byteS c
def notS (c:Int):Int:=ibits .xor .u32 (if IntKind.u32.signed then -1 else IntKind.u32.max) c
def onceC (d m z:D) (i:Nat):List AV:= .d d:: .d m:: .d z::(tblF i).map AV.d
theorem do_ok:ACallAt Tryz.prog 1 249 [.vp 0 0,.fn (.func 250) [.vp 0 0] []] [(0,.var (onceC (.int .u32 0) (.int .i32 0) (.int .u32 0) 0))] (fun r h'=>r= .tup []∧h'= [(0,.var (onceC (.int .u32 1) (.int .i32 0) (.int .u32 0) 256))]):=by
 refine zwo (cs:=onceC (.int .u32 0) (.int .i32 0) (.int .u32 0) 0) (cs2:=onceC (.int .u32 0) (.int .i32 1) (.int .u32 0) 256) rfl rfl rfl rfl rfl ?_
 refine (zp3 _ _ _).whole (fun i hi=>?_) (Nat.le_refl _) ?_
 ·by_cases h:i=0
  ·omega
  ·simp [hget,Ne.symm h] at hi
 ·rintro r h' ⟨rfl,rfl⟩ i hi
  by_cases h:i=0
  ·subst h;rfl
  ·simp [hget,Ne.symm h] at hi
theorem zwp (n:Int) (h0:0≤n) (h1:n<256) (d m z:D):(onceC d m z 256).getD (3+n.toNat*1) .any= .d (.int .u32 (tabF n.toNat)):=by
 have:n.toNat<256:=by omega
 unfold onceC
 rw [show 3+n.toNat*1=n.toNat+1+1+1 by omega]
 simp only [List.getD_cons_succ]
 rw [List.getD_eq_getElem?_getD,List.getElem?_map]
 unfold tblF
 rw [List.getElem?_map,List.getElem?_range this]
 simp [this]
theorem zwq (x y:Int):0≤ibits .xor .u8 x y∧ibits .xor .u8 x y<256:=by
 unfold ibits
 rw [IntKind.wrap_u8]
 omega
abbrev Mst (c:Int) (l:List UInt8):= { i:Nat // i≤l.length }
theorem zwr (c:Int) (l:List UInt8) (hl:l.length≤9223372036854775807):ACall Tryz.prog 214 1 [.vp 0 0,.d (.int .u32 c),.d (.str l)] [(0,.var (onceC (.int .u32 0) (.int .i32 0) (.int .u32 0) 0))] (fun r h'=>r= .d (.int .u32 (sumS c l))∧(hget h' 0).isSome):=by
 refine zaI Tryz.func214 rfl (zdn Tryz.func214 (by kernel_rfl) rfl) Tryz.ntmps214 (by simp) (fun base=>?_)
 refine zh noTab (zb _) (fun K hK=>?_);simp only [go_sem,Nat.le_refl,List.append_toArray,List.range_zero,List.append_eq,Int.toNat_natCast,aeq,aeq.aeqF,simprocAttr]
 refine hK _ ?_;clear hK K
 refine zh noTab (zb _) (fun K hK=>?_);simp only [go_sem,Nat.le_refl,List.append_toArray,List.range_zero,List.append_eq,Int.toNat_natCast,aeq,aeq.aeqF,simprocAttr]
 refine do_ok.mono ?_
 rintro r h' ⟨rfl,rfl⟩
 refine hK _ ?_;clear hK K
 refine zae (fun K2 hK2=>?_)
 refine zh noTab (zb _) (fun K hK=>?_);simp only [go_sem,Nat.le_refl,List.append_toArray,List.range_zero,List.append_eq,Int.toNat_natCast,aeq,aeq.aeqF,simprocAttr]
 refine ⟨by simp [zi],hK _ ?_⟩
 clear hK
 refine zaZ ?_
 refine zo (fun i:Mst c l=>⟨[(0,true,.vp 0 0),(1,true,.d (.int .u32 (sumS c (l.take i.1)))),(16,true,.osl 1 1 l.length 0 l.length),(17,true,.d (.int .i64 l.length)),(18,true,.d (.int .i64 i.1))],[(1,.arr 1 (zi l)),(0,.var (onceC (.int .u32 1) (.int .i32 0) (.int .u32 0) 256))],some []⟩) (fun i=>l.length - i.1) ⟨0,Nat.zero_le _⟩ (by simp only [AS.le,leT,leH,zf,AsgK,AV.le,AV.leL,AObj.le,inH,idsT,idsH,AV.ids,AV.idsL,AV.idsR,AObj.ids,lk,hget,go_sem,Nat.le_refl,List.append_toArray,List.range_zero,List.append_eq,Int.toNat_natCast,aeq,aeq.aeqF,simprocAttr]<;>simp [onceC,zdX,zcn,inH,sumS,AV.leL,AV.le,AV.idsL,AV.ids]) (fun i=>?_)
 obtain ⟨i,hi⟩:=i
 refine zh noTab (zb _) (fun K hK=>?_);simp only [go_sem,Nat.le_refl,List.append_toArray,List.range_zero,List.append_eq,Int.toNat_natCast,aeq,aeq.aeqF,simprocAttr]
 refine hK _ ?_;clear hK K
 refine zae (fun K3 hK3=>?_)
 refine zar rfl (fun hc=>?_) (fun hc=>?_)
 ·refine zeq ?_;simp only [go_sem,Nat.le_refl,List.append_toArray,List.range_zero,List.append_eq,Int.toNat_natCast,aeq,aeq.aeqF,simprocAttr];refine hK3 _ ?_;clear hK3 K3
  have hil:i<l.length:=by simp at hc;omega
  obtain ⟨b,hb⟩:∃b,l[i]?=some b:=⟨l[i],by simp [hil]⟩
  have hrow:(zi l).getD i []= [.int .u8 b.toNat]:=by simp [zi,List.getD_eq_getElem?_getD,hb,ze2]
  have hrl:(zi l).length=l.length:=by simp [zi]
  refine zae (fun K4 hK4=>?_)
  refine zaZ ?_
  refine zh noTab (zb _) (fun K hK=>?_);simp only [go_sem,Nat.le_refl,List.append_toArray,List.range_zero,List.append_eq,Int.toNat_natCast,aeq,aeq.aeqF,simprocAttr,hrow,hrl,Nat.zero_add]
  refine ⟨⟨by omega,by omega⟩,hil,hK _ ?_⟩
  clear hK
  obtain ⟨hb0,hb1⟩:=zwq (IntKind.u8.wrap (sumS c (l.take i))) b.toNat
  have htb:=zwp (ibits .xor .u8 (IntKind.u8.wrap (sumS c (l.take i))) b.toNat) hb0 hb1 (.int .u32 1) (.int .i32 0) (.int .u32 0)
  have hoc:(onceC (.int .u32 1) (.int .i32 0) (.int .u32 0) 256).length=259:=by simp [onceC,zo3]
  refine zax noTab (zb _) ?_;simp only [go_sem,Nat.le_refl,List.append_toArray,List.range_zero,List.append_eq,Int.toNat_natCast,aeq,aeq.aeqF,simprocAttr,htb,hoc]
  refine ⟨⟨hb0,hb1⟩,by omega,hK4 _ ?_⟩
  clear hK4
  refine zax noTab (zb _) ?_;simp only [go_sem,Nat.le_refl,List.append_toArray,List.range_zero,List.append_eq,Int.toNat_natCast,aeq,aeq.aeqF,simprocAttr]
  have hw:IntKind.i64.wrap ((i:Int)+1)=((i+1:Nat):Int):=by rw [IntKind.wrap_i64];omega
  have hs:ibits .xor .u32 (tabF (ibits .xor .u8 (IntKind.u8.wrap (sumS c (l.take i))) b.toNat).toNat) (ishr .u32 (sumS c (l.take i)) 8)=sumS c (l.take (i+1)):=by
   rw [List.take_add_one,hb]
   simp [sumS,byteS]
  refine ⟨⟨i+1,by omega⟩,?_,by simp;omega⟩
  rw [hw,hs]
  simp only [AS.le,leT,leH,zf,AsgK,AV.le,AV.leL,AObj.le,inH,idsT,idsH,AV.ids,AV.idsL,AV.idsR,AObj.ids,lk,hget,go_sem,Nat.le_refl,List.append_toArray,List.range_zero,List.append_eq,Int.toNat_natCast,aeq,aeq.aeqF,simprocAttr]
  simp [onceC,zdX,zcn,inH,AV.leL,AV.le,AV.idsL,AV.ids]
 ·refine zer ?_;simp only [go_sem,Nat.le_refl,List.append_toArray,List.range_zero,List.append_eq,Int.toNat_natCast,aeq,aeq.aeqF,simprocAttr];refine hK2 _ ?_
  have hil:i=l.length:=by simp at hc;omega
  subst hil
  refine zh noTab (zb _) (fun K hK=>?_);simp only [go_sem,Nat.le_refl,List.append_toArray,List.range_zero,List.append_eq,Int.toNat_natCast,aeq,aeq.aeqF,simprocAttr]
  refine hK _ ?_;clear hK K
  refine zfN ?_;simp only [go_sem,Nat.le_refl,List.append_toArray,List.range_zero,List.append_eq,Int.toNat_natCast,aeq,aeq.aeqF,simprocAttr,Tryz.results214]
theorem zjz (c:Int) (l:List UInt8) (hl:l.length≤9223372036854775807):ACall Tryz.prog 180 0 [.d (.int .u32 c),.d (.str l)] [] (fun r _=>r= .d (.int .u32 (notS (sumS (notS c) l)))):=by
 refine zaI Tryz.func180 rfl (zdn Tryz.func180 (by kernel_rfl) rfl) Tryz.ntmps180 (by simp) (fun base=>?_)
 refine zh noTab (zb _) (fun K hK=>?_);simp only [go_sem,Nat.le_refl,List.append_toArray,List.range_zero,List.append_eq,Int.toNat_natCast,aeq,aeq.aeqF,simprocAttr]
 refine hK _ ?_;clear hK K
 refine zh noTab (zb _) (fun K hK=>?_);simp only [go_sem,Nat.le_refl,List.append_toArray,List.range_zero,List.append_eq,Int.toNat_natCast,aeq,aeq.aeqF,simprocAttr]
 refine hK _ ?_;clear hK K
 refine zh noTab (zb _) (fun K hK=>?_);simp only [go_sem,Nat.le_refl,List.append_toArray,List.range_zero,List.append_eq,Int.toNat_natCast,aeq,aeq.aeqF,simprocAttr]
 refine ACallAt.mono (h:= [(0,.var (onceC (.int .u32 0) (.int .i32 0) (.int .u32 0) 0))]) (K:=fun r h'=>r= .d (.int .u32 (sumS (notS c) l))∧(hget h' 0).isSome) ((zwr (notS c) l hl).whole (fun i hi=>?_) (Nat.zero_le _) ?_) ?_
 ·by_cases h:i=0
  ·omega
  ·simp [hget,Ne.symm h] at hi
 ·rintro r h' ⟨rfl,hk⟩ i hi
  by_cases h:i=0
  ·subst h;exact hk
  ·simp [hget,Ne.symm h] at hi
 rintro r h' ⟨rfl,hk⟩
 simp only [go_sem,Nat.le_refl,List.append_toArray,List.range_zero,List.append_eq,Int.toNat_natCast,aeq,aeq.aeqF,simprocAttr]
 refine hK _ ?_;clear hK K
 refine zfN ?_;simp only [go_sem,Nat.le_refl,List.append_toArray,List.range_zero,List.append_eq,Int.toNat_natCast,aeq,aeq.aeqF,simprocAttr,Tryz.results180]
 rfl
def sumOf (c:Int) (l:List UInt8):Int:=notS (sumS (notS c) l)
def tabM:Tab:=fun f args=>
 if f=180 then (match args with
  | [.d (.int .u32 c),.d (.str l)]=>some (l.length≤9223372036854775807,.d (.int .u32 (sumOf c l)))
  |_=>none)
 else none
@[go_sem] theorem tabM30 (c:Int) (l:List UInt8):tabM 180 [.d (.int .u32 c),.d (.str l)]=some (l.length≤9223372036854775807,.d (.int .u32 (sumOf c l))):=rfl
theorem zws:TabOk Tryz.prog tabM:=⟨fun f args pre r h hp=>by
 unfold tabM at h
 split at h
 ·rename_i hf;subst hf
  split at h
  ·cases h;exact ⟨rfl,zjz _ _ hp⟩
  ·cases h
 ·cases h⟩
theorem zui (l:List UInt8) (hl:l.length≤9223372036854775807):ACall Tryz.prog 143 0 [.d (.str l)] [] (fun r _=>r= .d (.int .u32 (sumOf 0 l))):=by
 refine zaI Tryz.func143 rfl (zdn Tryz.func143 (by kernel_rfl) rfl) Tryz.ntmps143 (by simp) (fun base=>?_)
 refine zh noTab (zb _) (fun K hK=>?_);simp only [go_sem,Nat.le_refl,List.append_toArray,List.range_zero,List.append_eq,Int.toNat_natCast,aeq,aeq.aeqF,simprocAttr]
 refine hK _ ?_;clear hK K
 refine zh tabM zws (fun K hK=>?_);simp only [go_sem,Nat.le_refl,List.append_toArray,List.range_zero,List.append_eq,Int.toNat_natCast,aeq,aeq.aeqF,simprocAttr]
 refine ⟨hl,hK _ ?_⟩
 clear hK K
 refine zfN ?_;simp only [go_sem,Nat.le_refl,List.append_toArray,List.range_zero,List.append_eq,Int.toNat_natCast,aeq,aeq.aeqF,simprocAttr,Tryz.results143]
def zcB (c:Int) (j:Nat):Int:=IntKind.u8.wrap (ishr .u32 c (IntKind.i64.wrap (24 - IntKind.i64.wrap (8*(j:Int)))))
def bcell (c:Int) (i j:Nat):AV:= .d (.int .u8 (if j<i then zcB c j else 0))
def zih (c:Int) (i:Nat):List AV:= [bcell c i 0,bcell c i 1,bcell c i 2,bcell c i 3]
def zfT (c:Int):List UInt8:= [UInt8.ofNat (zcB c 0).toNat,UInt8.ofNat (zcB c 1).toNat,UInt8.ofNat (zcB c 2).toNat,UInt8.ofNat (zcB c 3).toNat]
theorem znl (c:Int):ACall Tryz.prog 142 0 [.d (.int .u32 c)] [] (fun r _=>r= .d (.str (zfT c))):=by
 refine zaI Tryz.func142 rfl (zdn Tryz.func142 (by kernel_rfl) rfl) Tryz.ntmps142 (by simp) (fun base=>?_)
 refine zh noTab (zb _) (fun K hK=>?_);simp only [go_sem,Nat.le_refl,List.append_toArray,List.range_zero,List.append_eq,Int.toNat_natCast,aeq,aeq.aeqF,simprocAttr]
 refine hK _ ?_;clear hK K
 refine zh noTab (zb _) (fun K hK=>?_);simp only [go_sem,Nat.le_refl,List.append_toArray,List.range_zero,List.append_eq,Int.toNat_natCast,aeq,aeq.aeqF,simprocAttr]
 refine hK _ ?_;clear hK K
 refine zae (fun K2 hK2=>?_)
 refine zh noTab (zb _) (fun K hK=>?_);simp only [go_sem,Nat.le_refl,List.append_toArray,List.range_zero,List.append_eq,Int.toNat_natCast,aeq,aeq.aeqF,simprocAttr]
 refine hK _ ?_;clear hK K
 refine zaZ ?_
 refine zo (fun i: {i:Nat // i≤4} =>⟨[(0,true,.d (.int .u32 c)),(3,true,.vp 0 0),(5,true,.d (.int .i64 i.1))],[(0,.var (zih c i.1))],some []⟩) (fun i=>4 - i.1) ⟨0,by omega⟩ (by simp only [AS.le,leT,leH,zf,AsgK,AV.le,AV.leL,AObj.le,inH,idsT,idsH,AV.ids,AV.idsL,AV.idsR,AObj.ids,lk,hget,go_sem,Nat.le_refl,List.append_toArray,List.range_zero,List.append_eq,Int.toNat_natCast,aeq,aeq.aeqF,simprocAttr]<;>simp [zih,bcell,AV.leL,AV.le,AV.idsL,AV.ids,inH]) (fun i=>?_)
 obtain ⟨i,hi⟩:=i
 refine zh noTab (zb _) (fun K hK=>?_);simp only [go_sem,Nat.le_refl,List.append_toArray,List.range_zero,List.append_eq,Int.toNat_natCast,aeq,aeq.aeqF,simprocAttr]
 refine hK _ ?_;clear hK K
 refine zae (fun K3 hK3=>?_)
 refine zar rfl (fun hc=>?_) (fun hc=>?_)
 ·refine zeq ?_;simp only [go_sem,Nat.le_refl,List.append_toArray,List.range_zero,List.append_eq,Int.toNat_natCast,aeq,aeq.aeqF,simprocAttr];refine hK3 _ ?_;clear hK3 K3
  have hil:i<4:=by simp at hc;omega
  refine zae (fun K4 hK4=>?_)
  refine zaZ ?_
  refine zh noTab (zb _) (fun K hK=>?_);simp only [go_sem,Nat.le_refl,List.append_toArray,List.range_zero,List.append_eq,Int.toNat_natCast,aeq,aeq.aeqF,simprocAttr]
  refine hK _ ?_;clear hK K
  refine zax noTab (zb _) ?_;simp only [go_sem,Nat.le_refl,List.append_toArray,List.range_zero,List.append_eq,Int.toNat_natCast,aeq,aeq.aeqF,simprocAttr]
  have hset:(zih c i).set (i*1) (.d (.int .u8 (zcB c i)))=zih c (i+1):=by
   have:i=0∨i=1∨i=2∨i=3:=by omega
   rcases this with rfl|rfl|rfl|rfl<;>rfl
  unfold zcB at hset
  rw [hset]
  refine ⟨by simp only [IntKind.wrap_i64];omega,⟨by omega,by omega⟩,by simp [zih];omega,hK4 _ ?_⟩
  refine zax noTab (zb _) ?_;simp only [go_sem,Nat.le_refl,List.append_toArray,List.range_zero,List.append_eq,Int.toNat_natCast,aeq,aeq.aeqF,simprocAttr]
  have hw:IntKind.i64.wrap ((i:Int)+1)=((i+1:Nat):Int):=by rw [IntKind.wrap_i64];omega
  refine ⟨⟨i+1,by omega⟩,?_,by simp;omega⟩
  rw [hw]
  simp only [AS.le,leT,leH,zf,AsgK,AV.le,AV.leL,AObj.le,inH,idsT,idsH,AV.ids,AV.idsL,AV.idsR,AObj.ids,lk,hget,go_sem,Nat.le_refl,List.append_toArray,List.range_zero,List.append_eq,Int.toNat_natCast,aeq,aeq.aeqF,simprocAttr]
  simp [zih,bcell,AV.leL,AV.le,AV.idsL,AV.ids,inH]
 ·refine zer ?_;simp only [go_sem,Nat.le_refl,List.append_toArray,List.range_zero,List.append_eq,Int.toNat_natCast,aeq,aeq.aeqF,simprocAttr];refine hK2 _ ?_
  have hil:i=4:=by simp at hc;omega
  subst hil
  have hb4:zih c 4= [.d (.int .u8 (zcB c 0)),.d (.int .u8 (zcB c 1)),.d (.int .u8 (zcB c 2)),.d (.int .u8 (zcB c 3))]:=rfl
  rw [hb4]
  refine zh noTab (zb _) (fun K hK=>?_);simp only [go_sem,Nat.le_refl,List.append_toArray,List.range_zero,List.append_eq,Int.toNat_natCast,aeq,aeq.aeqF,simprocAttr]
  refine ⟨rfl,hK _ ?_⟩
  clear hK
  refine zfN ?_;simp only [go_sem,Nat.le_refl,List.append_toArray,List.range_zero,List.append_eq,Int.toNat_natCast,aeq,aeq.aeqF,simprocAttr,Tryz.results142]
  rfl
open Go Go.Proofs
@[go_sem] noncomputable def zfa:Ent Tryz.prog 180:= .ofL (consL (intT .u32) (consL strT nilL)) (fun (c,l,_)=>l.length≤9223372036854775807) (fun (c,l,_)=> .d (.int .u32 (notS (sumS (notS c) l)))) (fun (c,l,_) hp=>⟨rfl,zjz c l hp⟩)
@[go_sem] noncomputable def zdB:Ent Tryz.prog 143:= .ofL (consL strT nilL) (fun (l,_)=>l.length≤9223372036854775807) (fun (l,_)=> .d (.int .u32 (sumOf 0 l))) (fun (l,_) hp=>⟨rfl,zui l hp⟩)
@[go_sem] noncomputable def zbV:Ent Tryz.prog 142:= .ofL (consL (intT .u32) nilL) (fun (c,_)=>True) (fun (c,_)=> .d (.str (zfT c))) (fun (c,_) hp=>⟨rfl,znl c⟩)
open Go Go.Proofs
theorem zuk (n k:Nat) (hk:k≤32):ishr .u32 (n:Int) (k:Int)=((n / 2 ^ k:Nat):Int):=by
 unfold ishr
 rw [show min ((k:Int).toNat) IntKind.u32.bits=k by show min ((k:Int).toNat) 32=k;omega]
 rw [Int.fdiv_eq_ediv_of_nonneg _ (Int.le_of_lt (Int.pow_pos (by decide)))]
 norm_cast
abbrev B32:=BitVec 32
def polyB:B32:=2197175160#32
def bT (x:B32):B32:=(x>>>1) ^^^ (if x.getLsbD 0 then polyB else 0#32)
def bN:Nat→B32→B32
 |0,x=>x
 |n+1,x=>bT (bN n x)
def u8B (b:UInt8):B32:=BitVec.ofNat 32 b.toNat
def stepB (c:B32) (b:UInt8):B32:=bN 8 (c ^^^ u8B b)
def sumB (c:B32) (l:List UInt8):B32:=l.foldl stepB c
theorem xor4 (a b c d:B32):(a ^^^ b) ^^^ (c ^^^ d)=(a ^^^ c) ^^^ (b ^^^ d):=by ac_rfl
theorem zxz (x y:B32):bT (x ^^^ y)=bT x ^^^ bT y:=by
 unfold bT
 rw [BitVec.ushiftRight_xor_distrib,xor4 (x>>>1)]
 congr 1
 rw [BitVec.getLsbD_xor]
 cases x.getLsbD 0<;>cases y.getLsbD 0<;>simp
theorem zjB (n:Nat) (x y:B32):bN n (x ^^^ y)=bN n x ^^^ bN n y:=by
 induction n with
 |zero=>rfl
 |succ n ih=>simp only [bN,ih,zxz]
theorem zxA (x:B32):(bT x).getLsbD 31=x.getLsbD 0:=by
 unfold bT
 rw [BitVec.getLsbD_xor]
 have h1:(x>>>1).getLsbD 31=false:=by simp
 rw [h1]
 cases x.getLsbD 0<;>simp<;>decide
theorem zwt (x:B32) (h:bT x=0#32):x=0#32:=by
 have h0:x.getLsbD 0=false:=by rw [← zxA,h];simp
 unfold bT at h
 rw [h0] at h
 simp only [Bool.false_eq_true,if_false,BitVec.xor_zero] at h
 apply BitVec.eq_of_getLsbD_eq
 intro i hi
 cases i with
 |zero=>simpa using h0
 |succ i=>
  have:=congrArg (fun y:B32=>y.getLsbD i) h
  simpa [Nat.add_comm] using this
theorem zr8 (n:Nat) (x:B32) (h:bN n x=0#32):x=0#32:=by
 induction n with
 |zero=>exact h
 |succ n ih=>exact ih (zwt _ h)
theorem zlQ (m n:Nat) (x:B32):bN (m+n) x=bN m (bN n x):=by
 induction m with
 |zero=>rw [Nat.zero_add];rfl
 |succ m ih=>rw [Nat.succ_add];simp only [bN,ih]
theorem zo5 (n:Nat):∀ (x:B32),(∀i,i<n→x.getLsbD i=false)→bN n x=x>>>n:=by
 induction n with
 |zero=>intro x _;simp [bN]
 |succ n ih=>
  intro x h
  simp only [bN]
  rw [ih x (fun i hi=>h i (by omega))]
  unfold bT
  have:(x>>>n).getLsbD 0=false:=by simpa using h n (by omega)
  rw [this]
  simp only [Bool.false_eq_true,if_false,BitVec.xor_zero]
  rw [← BitVec.shiftRight_add]
def low8 (x:B32):B32:=x&&& 255#32
def high8 (x:B32):B32:=x&&& 4294967040#32
theorem zul (x:B32):x=low8 x ^^^ high8 x:=by
 have e:(4294967040#32)= ~~~(255#32):=by decide
 unfold low8 high8
 rw [e]
 apply BitVec.eq_of_getLsbD_eq
 intro i hi
 simp only [BitVec.getLsbD_xor,BitVec.getLsbD_and,BitVec.getLsbD_not,hi,decide_true,Bool.true_and]
 cases x.getLsbD i<;>cases (255#32).getLsbD i<;>rfl
theorem zr9 (x:B32) (i:Nat) (hi:i<8):(high8 x).getLsbD i=false:=by
 unfold high8
 rw [BitVec.getLsbD_and]
 have:∀i,i<8→(4294967040#32).getLsbD i=false:=by decide
 rw [this i hi,Bool.and_false]
theorem znm (x:B32):high8 x>>>8=x>>>8:=by
 unfold high8
 apply BitVec.eq_of_getLsbD_eq
 intro i hi
 simp only [BitVec.getLsbD_ushiftRight,BitVec.getLsbD_and]
 by_cases h:8+i<32
 ·have:∀i,i<24→(4294967040#32).getLsbD (8+i)=true:=by decide
  rw [this i (by omega),Bool.and_true]
 ·rw [BitVec.getLsbD_of_ge x _ (by omega),Bool.false_and]
theorem zsa (x:B32):bN 8 x=bN 8 (low8 x) ^^^ (x>>>8):=by
 conv=>lhs;rw [zul x]
 rw [zjB,zo5 8 (high8 x) (zr9 x),znm]
theorem zum (b:UInt8):u8B b>>>8=0#32:=by
 have:=b.toNat_lt
 apply BitVec.eq_of_toNat_eq
 simp [u8B,Nat.shiftRight_eq_div_pow]
 omega
theorem zwu (b:UInt8):low8 (u8B b)=u8B b:=by
 have:=b.toNat_lt
 apply BitVec.eq_of_toNat_eq
 simp only [low8,u8B,BitVec.toNat_and,BitVec.toNat_ofNat]
 rw [show 255 % 2 ^ 32=2 ^ 8 - 1 by decide,Nat.and_two_pow_sub_one_eq_mod]
 omega
theorem zsb (c:B32) (b:UInt8):stepB c b=bN 8 (low8 c ^^^ u8B b) ^^^ (c>>>8):=by
 unfold stepB
 rw [zsa]
 have h1:low8 (c ^^^ u8B b)=low8 c ^^^ u8B b:=by
  conv=>rhs;rw [← zwu b]
  unfold low8
  apply BitVec.eq_of_getLsbD_eq
  intro i hi
  simp only [BitVec.getLsbD_xor,BitVec.getLsbD_and]
  cases c.getLsbD i<;>cases (u8B b).getLsbD i<;>cases (255#32).getLsbD i<;>rfl
 rw [h1,BitVec.ushiftRight_xor_distrib,zum,BitVec.xor_zero]
theorem zwv (a b:UInt8):u8B (a ^^^ b)=u8B a ^^^ u8B b:=by
 apply BitVec.eq_of_toNat_eq
 have:=a.toNat_lt
 have:=b.toNat_lt
 have h:=Nat.xor_lt_two_pow (n:=32) (x:=a.toNat) (y:=b.toNat) (by omega) (by omega)
 simp only [u8B,BitVec.toNat_xor,BitVec.toNat_ofNat,UInt8.toNat_xor]
 rw [Nat.mod_eq_of_lt (by omega),Nat.mod_eq_of_lt (by omega),Nat.mod_eq_of_lt (by omega)]
def xorL (a b:List UInt8):List UInt8:=List.zipWith (· ^^^ ·) a b
theorem zsc (c d:B32) (a b:UInt8):stepB (c ^^^ d) (a ^^^ b)=stepB c a ^^^ stepB d b:=by
 unfold stepB
 rw [zwv,xor4,zjB]
theorem zkm:∀ (a b:List UInt8) (c d:B32),a.length=b.length→sumB (c ^^^ d) (xorL a b)=sumB c a ^^^ sumB d b
 | [],[],c,d,_=>rfl
 |x::a,y::b,c,d,h=>by
  simp only [xorL,List.zipWith_cons_cons,sumB,List.foldl_cons]
  rw [zsc]
  exact zkm a b _ _ (by simpa using h)
 | [],_::_,_,_,h=>by simp at h
 |_::_,[],_,_,h=>by simp at h
theorem zdY (c:B32) (a b:List UInt8):sumB c (a++b)=sumB (sumB c a) b:=by simp [sumB,List.foldl_append]
theorem zp5 (n:Nat) (c:B32):sumB c (List.replicate n 0)=bN (8*n) c:=by
 induction n generalizing c with
 |zero=>rfl
 |succ n ih=>
  rw [List.replicate_succ]
  simp only [sumB,List.foldl_cons]
  have:stepB c 0=bN 8 c:=by simp [stepB,u8B]
  rw [this]
  have:=ih (bN 8 c)
  unfold sumB at this
  rw [this,← zlQ,Nat.mul_succ]
theorem sum4 (p q r s:UInt8):sumB 0#32 [p,q,r,s]=bN 32 (u8B p ^^^ (u8B q<<<8) ^^^ (u8B r<<<16) ^^^ (u8B s<<<24)):=by
 have sh:∀ (b:UInt8) (k:Nat),k≤24→bN k (u8B b<<<k)=u8B b:=fun b k hk=>by
  rw [zo5 k _ (fun i hi=>by rw [BitVec.getLsbD_shiftLeft];simp [hi])]
  have:=b.toNat_lt
  apply BitVec.eq_of_toNat_eq
  simp only [u8B,BitVec.toNat_ushiftRight,BitVec.toNat_shiftLeft,BitVec.toNat_ofNat]
  rw [Nat.mod_eq_of_lt (show b.toNat<2 ^ 32 by omega),Nat.shiftLeft_eq,Nat.shiftRight_eq_div_pow]
  have h2:b.toNat*2 ^ k<2 ^ 32:=by
   have:(2:Nat) ^ k≤2 ^ 24:=Nat.pow_le_pow_right (by omega) hk
   calc b.toNat*2 ^ k≤b.toNat*2 ^ 24:=Nat.mul_le_mul_left _ this
    _<2 ^ 32:=by omega
  rw [Nat.mod_eq_of_lt h2,Nat.mul_div_cancel _ (Nat.pow_pos (by omega))]
 simp only [sumB,List.foldl_cons,List.foldl_nil,stepB,BitVec.zero_xor]
 rw [zjB 32,zjB 32,zjB 32]
 rw [show bN 32 (u8B s<<<24)=bN 8 (u8B s) from (zlQ 8 24 _).trans (congrArg (bN 8) (sh s 24 (by omega)))]
 rw [show bN 32 (u8B r<<<16)=bN 16 (u8B r) from (zlQ 16 16 _).trans (congrArg (bN 16) (sh r 16 (by omega)))]
 rw [show bN 32 (u8B q<<<8)=bN 24 (u8B q) from (zlQ 24 8 _).trans (congrArg (bN 24) (sh q 8 (by omega)))]
 simp only [zjB,← zlQ]
theorem unlike (c:B32) (a m n z:List UInt8) (p q r s:UInt8) (hm:m=xorL n [p,q,r,s]) (hn:n.length=4) (h0:u8B p ^^^ (u8B q<<<8) ^^^ (u8B r<<<16) ^^^ (u8B s<<<24)≠0#32):sumB c (a++n++z)≠sumB c (a++m++z):=by
 intro h
 rw [zdY,zdY,zdY,zdY] at h
 subst hm
 have e1:sumB (sumB c a) (xorL n [p,q,r,s])=sumB (sumB c a) n ^^^ sumB 0#32 [p,q,r,s]:=by
  have:=zkm n [p,q,r,s] (sumB c a) 0#32 (by simpa using hn)
  rwa [BitVec.xor_zero] at this
 rw [e1] at h
 have zz:∀z:List UInt8,xorL z (List.replicate z.length 0)=z:=by
  intro z
  induction z with
  |nil=>rfl
  |cons x z ih=>
   rw [List.length_cons,List.replicate_succ]
   simp only [xorL,List.zipWith_cons_cons]
   unfold xorL at ih
   rw [ih];simp
 have e2:=zkm z (List.replicate z.length 0) (sumB (sumB c a) n) (sumB 0#32 [p,q,r,s]) (by simp)
 rw [zz,zp5] at e2
 rw [e2] at h
 have h3:bN (8*z.length) (sumB 0#32 [p,q,r,s])=0#32:=by
  have:=congrArg (fun x=>sumB (sumB (sumB c a) n) z ^^^ x) h
  simp only [BitVec.xor_self,← BitVec.xor_assoc,BitVec.zero_xor] at this
  exact this.symm
 have h4:=zr8 _ _ h3
 rw [sum4] at h4
 exact h0 (zr8 _ _ h4)
def toI (x:B32):Int:=x.toNat
theorem zlR (n:Nat) (h:n<4294967296):toI (BitVec.ofNat 32 n)=n:=by
 unfold toI
 rw [BitVec.toNat_ofNat,Nat.mod_eq_of_lt h]
theorem ofI (c:Int) (h0:0≤c) (h1:c≤4294967295):∃x:B32,c=toI x:=
 ⟨BitVec.ofNat 32 c.toNat,by rw [zlR _ (by omega)];omega⟩
theorem zo6 (x:B32):BitVec.ofInt 32 (toI x)=x:=by
 unfold toI
 rw [BitVec.ofInt_natCast]
 simp
theorem zem (x y:B32):ibits .xor .u32 (toI x) (toI y)=toI (x ^^^ y):=by
 show IntKind.u32.wrap ((BitVec.ofInt 32 (toI x) ^^^ BitVec.ofInt 32 (toI y)).toNat:Int)=_
 rw [zo6,zo6]
 have:=(x ^^^ y).isLt
 unfold toI
 rw [IntKind.wrap_u32]
 omega
theorem zsd (x y:B32):ibits .and .u32 (toI x) (toI y)=toI (x&&& y):=by
 show IntKind.u32.wrap ((BitVec.ofInt 32 (toI x)&&& BitVec.ofInt 32 (toI y)).toNat:Int)=_
 rw [zo6,zo6]
 have:=(x&&& y).isLt
 unfold toI
 rw [IntKind.wrap_u32]
 omega
theorem zhG (x:B32) (k:Nat) (hk:k≤32):ishr .u32 (toI x) (k:Int)=toI (x>>>k):=by
 unfold toI
 rw [zuk _ _ hk,BitVec.toNat_ushiftRight,Nat.shiftRight_eq_div_pow]
theorem zun (x:B32):bitT (toI x)=toI (bT x):=by
 unfold bitT bT
 have h1:(1:Int)=toI 1#32:=by decide
 have hs:ishr .u32 (toI x) 1=toI (x>>>1):=zhG x 1 (by omega)
 rw [hs]
 have ha:ibits .and .u32 (toI x) 1=toI (x&&& 1#32):=by rw [h1,zsd]
 rw [ha]
 have hb:x&&& 1#32=if x.getLsbD 0 then 1#32 else 0#32:=by
  apply BitVec.eq_of_getLsbD_eq
  intro i hi
  rw [BitVec.getLsbD_and]
  cases i with
  |zero=>cases x.getLsbD 0<;>rfl
  |succ i=>
   have:(1#32).getLsbD (i+1)=false:=by simp [BitVec.getLsbD_one]
   rw [this,Bool.and_false]
   split<;>simp
 rw [hb]
 cases x.getLsbD 0
 ·simp only [Bool.false_eq_true,if_false]
  rw [show IntKind.u32.wrap (toI 0#32*2197175160)=toI 0#32 by decide,zem]
 ·simp only [if_true]
  rw [show IntKind.u32.wrap (toI 1#32*2197175160)=toI polyB by decide,zem]
theorem zse (n:Nat) (x:B32):bitsT n (toI x)=toI (bN n x):=by
 induction n with
 |zero=>rfl
 |succ n ih=>simp only [bitsT,bN,ih,zun]
theorem zuo (x:B32) (h:x.toNat<4294967296):tabF x.toNat=toI (bN 8 x):=by
 unfold tabF
 have:IntKind.u32.wrap (x.toNat:Int)=toI x:=by
  unfold toI
  rw [IntKind.wrap_u32];omega
 rw [this,zse]
theorem zp6 (x:B32) (b:UInt8):(ibits .xor .u8 (IntKind.u8.wrap (toI x)) b.toNat).toNat=(low8 x ^^^ u8B b).toNat:=by
 have hb:=b.toNat_lt
 have h1:IntKind.u8.wrap (toI x)=((x.toNat % 256:Nat):Int):=by
  unfold toI
  rw [IntKind.wrap_u8];omega
 rw [h1]
 have hx:x.toNat % 256<256:=Nat.mod_lt _ (by omega)
 have h2:=Nat.xor_lt_two_pow (n:=8) (x:=x.toNat % 256) (y:=b.toNat) (by omega) (by omega)
 have h3:(low8 x ^^^ u8B b).toNat=(x.toNat % 256) ^^^ b.toNat:=by
  simp only [low8,u8B,BitVec.toNat_xor,BitVec.toNat_and,BitVec.toNat_ofNat]
  rw [show 255 % 2 ^ 32=2 ^ 8 - 1 by decide,Nat.and_two_pow_sub_one_eq_mod,Nat.mod_eq_of_lt (show b.toNat<2 ^ 32 by omega)]
 rw [h3]
 show (IntKind.u8.wrap ((BitVec.ofInt 8 ((x.toNat % 256:Nat):Int) ^^^ BitVec.ofInt 8 ((b.toNat:Nat):Int)).toNat:Int)).toNat=_
 rw [BitVec.ofInt_natCast,BitVec.ofInt_natCast,BitVec.toNat_xor,BitVec.toNat_ofNat,BitVec.toNat_ofNat,Nat.mod_eq_of_lt (show x.toNat % 256<2 ^ 8 by omega),Nat.mod_eq_of_lt (show b.toNat<2 ^ 8 by omega),IntKind.wrap_u8]
 omega
theorem zsf (x:B32) (b:UInt8):byteS (toI x) b=toI (stepB x b):=by
 unfold byteS
 rw [zp6,zuo _ (BitVec.isLt _),show ishr .u32 (toI x) 8=toI (x>>>8) from zhG x 8 (by omega),zem,zsb]
theorem zup (x:B32) (l:List UInt8):sumS (toI x) l=toI (sumB x l):=by
 induction l generalizing x with
 |nil=>rfl
 |cons b l ih=>
  simp only [sumS,sumB,List.foldl_cons,zsf] at*
  exact ih _
def onesB:B32:=4294967295#32
theorem zkn (x:B32):notS (toI x)=toI (onesB ^^^ x):=by
 unfold notS
 rw [show (if IntKind.u32.signed=true then (-1:Int) else IntKind.u32.max)=toI onesB from by decide,zem]
theorem zlS (x:B32) (l:List UInt8):sumOf (toI x) l=toI (onesB ^^^ sumB (onesB ^^^ x) l):=by
 unfold sumOf
 rw [zkn,zup,zkn]
open Go Go.Proofs
theorem zww (b:UInt8):IntKind.u32.wrap (b.toNat:Int)=toI (u8B b):=by
 have:=b.toNat_lt
 unfold u8B
 rw [zlR _ (by omega),IntKind.wrap_u32]
 omega
theorem rem2 (x:B32):((toI x).tmod 2==1)=x.getLsbD 0:=by
 unfold toI
 have h0:(x.toNat:Int).tmod 2=((x.toNat % 2:Nat):Int):=by rw [Int.tmod_eq_emod_of_nonneg (by omega)];omega
 rw [h0]
 have h1:x.getLsbD 0=decide (x.toNat % 2=1):=by
  rw [BitVec.getLsbD,Nat.testBit_zero]
 rw [h1]
 rcases Nat.mod_two_eq_zero_or_one x.toNat with h|h<;>rw [h]<;>rfl
theorem zsg (x:B32) (h:x.getLsbD 0=true):ibits .xor .u32 (ishr .u32 (toI x) 1) 2197175160=toI (bT x):=by
 rw [show ishr .u32 (toI x) 1=toI (x>>>1) from zhG x 1 (by omega),show (2197175160:Int)=toI polyB by decide,zem]
 unfold bT
 rw [h];rfl
theorem zp7 (x:B32) (h:x.getLsbD 0=false):ishr .u32 (toI x) 1=toI (bT x):=by
 rw [show ishr .u32 (toI x) 1=toI (x>>>1) from zhG x 1 (by omega)]
 unfold bT
 rw [h];simp
theorem zp8 (x:B32) (l:List UInt8) (hl:l.length≤9223372036854775807):ACall Tryz.prog 134 0 [.d (.int .u32 (toI x)),.d (.str l)] [] (fun r _=>r= .d (.int .u32 (toI (onesB ^^^ sumB (onesB ^^^ x) l)))):=by
 have hnot:∀y:B32,ibits .xor .u32 (if IntKind.u32.signed=true then (-1:Int) else IntKind.u32.max) (toI y)=toI (onesB ^^^ y):=zkn
 refine zaI Tryz.func134 rfl (zdn Tryz.func134 (by kernel_rfl) rfl) Tryz.ntmps134 (by simp) (fun base=>?_)
 refine zh noTab (zb _) (fun K hK=>?_);simp only [go_sem,Nat.le_refl,List.append_toArray,List.range_zero,List.append_eq,Int.toNat_natCast,aeq,aeq.aeqF,simprocAttr]
 refine hK _ ?_;clear hK K
 refine zh noTab (zb _) (fun K hK=>?_);simp only [go_sem,Nat.le_refl,List.append_toArray,List.range_zero,List.append_eq,Int.toNat_natCast,aeq,aeq.aeqF,simprocAttr,hnot]
 refine hK _ ?_;clear hK K
 refine zae (fun K1 hK1=>?_)
 refine zh noTab (zb _) (fun K hK=>?_);simp only [go_sem,Nat.le_refl,List.append_toArray,List.range_zero,List.append_eq,Int.toNat_natCast,aeq,aeq.aeqF,simprocAttr]
 refine hK _ ?_;clear hK K
 refine zaZ ?_
 refine zo (fun i: {i:Nat // i≤l.length} =>⟨[(1,true,.d (.str l)),(5,true,.d (.int .u32 (toI (sumB (onesB ^^^ x) (l.take i.1))))),(6,true,.d (.int .i64 i.1))],[],some []⟩) (fun i=>l.length - i.1) ⟨0,by omega⟩ (by simp only [AS.le,leT,leH,zf,AsgK,AV.le,AV.leL,AObj.le,inH,idsT,idsH,AV.ids,AV.idsL,AV.idsR,AObj.ids,lk,hget,go_sem,Nat.le_refl,List.append_toArray,List.range_zero,List.append_eq,Int.toNat_natCast,aeq,aeq.aeqF,simprocAttr]<;>simp [sumB]) (fun i=>?_)
 obtain ⟨i,hi⟩:=i
 refine zae (fun K2 hK2=>?_)
 refine zh noTab (zb _) (fun K hK=>?_);simp only [go_sem,Nat.le_refl,List.append_toArray,List.range_zero,List.append_eq,Int.toNat_natCast,aeq,aeq.aeqF,simprocAttr]
 refine hK _ ?_;clear hK K
 refine zar rfl (fun hc=>?_) (fun hc=>?_)
 ·refine zeq ?_;simp only [go_sem,Nat.le_refl,List.append_toArray,List.range_zero,List.append_eq,Int.toNat_natCast,aeq,aeq.aeqF,simprocAttr];refine hK2 _ ?_;clear hK2 K2
  have hil:i<l.length:=by simp at hc;omega
  obtain ⟨b,hb⟩:∃b,l[i]?=some b:=⟨l[i],by simp [hil]⟩
  have hgd:l.getD i 0=b:=by simp [List.getD_eq_getElem?_getD,hb]
  refine zae (fun K3 hK3=>?_)
  refine zaZ ?_
  refine zh noTab (zb _) (fun K hK=>?_);simp only [go_sem,Nat.le_refl,List.append_toArray,List.range_zero,List.append_eq,Int.toNat_natCast,aeq,aeq.aeqF,simprocAttr,hgd,zww,zem]
  refine ⟨⟨by omega,by omega⟩,hK _ ?_⟩
  clear hK
  refine zh noTab (zb _) (fun K hK=>?_);simp only [go_sem,Nat.le_refl,List.append_toArray,List.range_zero,List.append_eq,Int.toNat_natCast,aeq,aeq.aeqF,simprocAttr]
  refine hK _ ?_;clear hK K
  refine zaZ ?_
  refine zo (fun k: {k:Nat // k≤8} =>⟨[(1,true,.d (.str l)),(6,true,.d (.int .i64 i)),(5,true,.d (.int .u32 (toI (bN k.1 (sumB (onesB ^^^ x) (l.take i) ^^^ u8B b))))),(7,true,.d (.int .i64 k.1))],[],some []⟩) (fun k=>8 - k.1) ⟨0,by omega⟩ (by simp only [AS.le,leT,leH,zf,AsgK,AV.le,AV.leL,AObj.le,inH,idsT,idsH,AV.ids,AV.idsL,AV.idsR,AObj.ids,lk,hget,go_sem,Nat.le_refl,List.append_toArray,List.range_zero,List.append_eq,Int.toNat_natCast,aeq,aeq.aeqF,simprocAttr]<;>simp [bN]) (fun k=>?_)
  obtain ⟨k,hk⟩:=k
  refine zae (fun K4 hK4=>?_)
  refine zh noTab (zb _) (fun K hK=>?_);simp only [go_sem,Nat.le_refl,List.append_toArray,List.range_zero,List.append_eq,Int.toNat_natCast,aeq,aeq.aeqF,simprocAttr]
  refine hK _ ?_;clear hK K
  refine zar rfl (fun hc=>?_) (fun hc=>?_)
  ·refine zeq ?_;simp only [go_sem,Nat.le_refl,List.append_toArray,List.range_zero,List.append_eq,Int.toNat_natCast,aeq,aeq.aeqF,simprocAttr];refine hK4 _ ?_;clear hK4 K4
   have hkl:k<8:=by simp at hc;omega
   have hw:IntKind.i64.wrap ((k:Int)+1)=((k+1:Nat):Int):=by rw [IntKind.wrap_i64];omega
   refine zae (fun K5 hK5=>?_)
   refine zaZ ?_
   refine zh noTab (zb _) (fun K hK=>?_);simp only [go_sem,Nat.le_refl,List.append_toArray,List.range_zero,List.append_eq,Int.toNat_natCast,aeq,aeq.aeqF,simprocAttr,rem2]
   refine hK _ ?_;clear hK K
   refine zar rfl (fun hc=>?_) (fun hc=>?_)
   ·have hb1:(bN k (sumB (onesB ^^^ x) (l.take i) ^^^ u8B b)).getLsbD 0=true:=by simpa using hc
    refine zax noTab (zb _) ?_;simp only [go_sem,Nat.le_refl,List.append_toArray,List.range_zero,List.append_eq,Int.toNat_natCast,aeq,aeq.aeqF,simprocAttr,zsg _ hb1]
    refine hK5 _ ?_;clear hK5 K5
    refine zax noTab (zb _) ?_;simp only [go_sem,Nat.le_refl,List.append_toArray,List.range_zero,List.append_eq,Int.toNat_natCast,aeq,aeq.aeqF,simprocAttr]
    refine ⟨⟨k+1,by omega⟩,?_,by simp;omega⟩
    rw [hw]
    simp only [AS.le,leT,leH,zf,AsgK,AV.le,AV.leL,AObj.le,inH,idsT,idsH,AV.ids,AV.idsL,AV.idsR,AObj.ids,lk,hget,go_sem,Nat.le_refl,List.append_toArray,List.range_zero,List.append_eq,Int.toNat_natCast,aeq,aeq.aeqF,simprocAttr]
    try rfl
   ·have hb1:(bN k (sumB (onesB ^^^ x) (l.take i) ^^^ u8B b)).getLsbD 0=false:=by simpa using hc
    refine zax noTab (zb _) ?_;simp only [go_sem,Nat.le_refl,List.append_toArray,List.range_zero,List.append_eq,Int.toNat_natCast,aeq,aeq.aeqF,simprocAttr,zp7 _ hb1]
    refine hK5 _ ?_;clear hK5 K5
    refine zax noTab (zb _) ?_;simp only [go_sem,Nat.le_refl,List.append_toArray,List.range_zero,List.append_eq,Int.toNat_natCast,aeq,aeq.aeqF,simprocAttr]
    refine ⟨⟨k+1,by omega⟩,?_,by simp;omega⟩
    rw [hw]
    simp only [AS.le,leT,leH,zf,AsgK,AV.le,AV.leL,AObj.le,inH,idsT,idsH,AV.ids,AV.idsL,AV.idsR,AObj.ids,lk,hget,go_sem,Nat.le_refl,List.append_toArray,List.range_zero,List.append_eq,Int.toNat_natCast,aeq,aeq.aeqF,simprocAttr]
    try rfl
  ·refine zer ?_;simp only [go_sem,Nat.le_refl,List.append_toArray,List.range_zero,List.append_eq,Int.toNat_natCast,aeq,aeq.aeqF,simprocAttr];refine hK3 _ ?_
   have hk8:k=8:=by simp at hc;omega
   subst hk8
   refine zax noTab (zb _) ?_;simp only [go_sem,Nat.le_refl,List.append_toArray,List.range_zero,List.append_eq,Int.toNat_natCast,aeq,aeq.aeqF,simprocAttr]
   have hw:IntKind.i64.wrap ((i:Int)+1)=((i+1:Nat):Int):=by rw [IntKind.wrap_i64];omega
   refine ⟨⟨i+1,by omega⟩,?_,by simp;omega⟩
   rw [hw]
   have hs:sumB (onesB ^^^ x) (l.take (i+1))=bN 8 (sumB (onesB ^^^ x) (l.take i) ^^^ u8B b):=by
    rw [List.take_add_one,hb,Option.toList_some,zdY];rfl
   rw [hs]
   simp only [AS.le,leT,leH,zf,AsgK,AV.le,AV.leL,AObj.le,inH,idsT,idsH,AV.ids,AV.idsL,AV.idsR,AObj.ids,lk,hget,go_sem,Nat.le_refl,List.append_toArray,List.range_zero,List.append_eq,Int.toNat_natCast,aeq,aeq.aeqF,simprocAttr]
 ·refine zer ?_;simp only [go_sem,Nat.le_refl,List.append_toArray,List.range_zero,List.append_eq,Int.toNat_natCast,aeq,aeq.aeqF,simprocAttr];refine hK1 _ ?_
  have hil:i=l.length:=by simp at hc;omega
  subst hil
  refine zh noTab (zb _) (fun K hK=>?_);simp only [go_sem,Nat.le_refl,List.append_toArray,List.range_zero,List.append_eq,Int.toNat_natCast,aeq,aeq.aeqF,simprocAttr,hnot]
  refine hK _ ?_;clear hK K
  refine zfN ?_;simp only [go_sem,Nat.le_refl,List.append_toArray,List.range_zero,List.append_eq,Int.toNat_natCast,aeq,aeq.aeqF,simprocAttr,Tryz.results134]
  try rw [List.take_length]
theorem znn (c:Int) (l:List UInt8) (h0:0≤c) (h1:c≤4294967295) (hl:l.length≤9223372036854775807):ACall Tryz.prog 134 0 [.d (.int .u32 c),.d (.str l)] [] (fun r _=>r= .d (.int .u32 (sumOf c l))):=by
 obtain ⟨x,rfl⟩:=ofI c h0 h1
 rw [zlS]
 exact zp8 x l hl
theorem zno (c:Int) (h0:0≤c) (h1:c≤4294967295):ACall Tryz.prog 96 0 [.d (.int .u32 c)] [] (fun r _=>r= .d (.str (zfT c))):=by
 refine zaI Tryz.func96 rfl (zdn Tryz.func96 (by kernel_rfl) rfl) Tryz.ntmps96 (by simp) (fun base=>?_)
 refine zh noTab (zb _) (fun K hK=>?_);simp only [go_sem,Nat.le_refl,List.append_toArray,List.range_zero,List.append_eq,Int.toNat_natCast,aeq,aeq.aeqF,simprocAttr]
 refine hK _ ?_;clear hK K
 refine zh noTab (zb _) (fun K hK=>?_);simp only [go_sem,Nat.le_refl,List.append_toArray,List.range_zero,List.append_eq,Int.toNat_natCast,aeq,aeq.aeqF,simprocAttr]
 refine ⟨rfl,hK _ ?_⟩
 clear hK K
 refine zfN ?_;simp only [go_sem,Nat.le_refl,List.append_toArray,List.range_zero,List.append_eq,Int.toNat_natCast,aeq,aeq.aeqF,simprocAttr,Tryz.results96]
 have e3:zcB c 3=IntKind.u8.wrap c:=by
  unfold zcB ishr
  rw [show IntKind.i64.wrap (24 - IntKind.i64.wrap (8*((3:Nat):Int)))=0 by decide]
  simp
 have e2:zcB c 2=IntKind.u8.wrap (ishr .u32 c 8):=by
  unfold zcB
  rw [show IntKind.i64.wrap (24 - IntKind.i64.wrap (8*((2:Nat):Int)))=8 by decide]
 have e1:zcB c 1=IntKind.u8.wrap (ishr .u32 c 16):=by
  unfold zcB
  rw [show IntKind.i64.wrap (24 - IntKind.i64.wrap (8*((1:Nat):Int)))=16 by decide]
 have e0:zcB c 0=IntKind.u8.wrap (ishr .u32 c 24):=by
  unfold zcB
  rw [show IntKind.i64.wrap (24 - IntKind.i64.wrap (8*((0:Nat):Int)))=24 by decide]
 simp only [zfT,bytesOf,List.map_cons,List.map_nil,numOf,e0,e1,e2,e3]
theorem zf3 (c:Int) (l:List UInt8) (h0:0≤c) (h1:c≤4294967295):0≤sumOf c l∧sumOf c l≤4294967295:=by
 obtain ⟨x,rfl⟩:=ofI c h0 h1
 rw [zlS]
 unfold toI
 have:=(onesB ^^^ sumB (onesB ^^^ x) l).isLt
 omega
open Go Go.Proofs
@[go_sem] noncomputable def zbv:Ent Tryz.prog 134:= .ofL (consL (intT .u32) (consL strT nilL)) (fun (c,l,_)=>(0≤c)∧(c≤4294967295)∧(l.length≤9223372036854775807)) (fun (c,l,_)=> .d (.int .u32 (sumOf c l))) (fun (c,l,_) hp=>⟨rfl,znn c l hp.1 hp.2.1 hp.2.2⟩)
@[go_sem] noncomputable def zaB:Ent Tryz.prog 96:= .ofL (consL (intT .u32) nilL) (fun (c,_)=>(0≤c)∧(c≤4294967295)) (fun (c,_)=> .d (.str (zfT c))) (fun (c,_) hp=>⟨rfl,zno c hp.1 hp.2⟩)
theorem zuq (l:List UInt8) (hl:l.length≤9223372036854775807):ACall Tryz.prog 97 0 [.d (.str l)] [] (fun r _=>r= .d (.int .u32 (sumOf 0 l))):=by
 refine bod Tryz.func97 Tryz.ntmps97 (fun base=>?_)
 refine' walkW fx (za zbv <| zb _)
@[go_sem] noncomputable def zbB:Ent Tryz.prog 97:= .ofL (consL strT nilL) (fun (l,_)=>l.length≤9223372036854775807) (fun (l,_)=> .d (.int .u32 (sumOf 0 l))) (fun (l,_) hp=>⟨rfl,zuq l hp⟩)
end Go.Aw
namespace Go.Proofs.YtgkjmbopnaeanaaGreat
open Go Go.RowKit
theorem bsize:∃j,Tryz.prog.info? 85=some j∧j.size=2:=by
 obtain ⟨j,hj,hjs⟩:=Option.map_eq_some_iff.1 (show (Tryz.prog.info? 85).map (·.size)=some 2 by kernel_rfl)
 exact ⟨j,hj,hjs⟩
theorem zst (b o:Nat) (w:World) (h0:w.cell? ⟨b,o,none⟩=some (.pointer (some ⟨b,o,none⟩))):
  Calls Tryz.prog 79 #[.pointer (some ⟨b,o,none⟩)] w fun e w'=>e= .returned (.tuple #[])∧w'=w:=by
 obtain ⟨j,hj,hjs⟩:=bsize
 go_enter Tryz.func79,Tryz.ntmps79
 go_wp2
 rw [Lib.run_neq_ptr_same w _ Tryz.underlying82 hj]
 go_wp2
 go_end0
 exact ⟨rfl,rfl⟩
theorem zqo (b o n:Nat) (T:TypeId) (w:World) (h0:w.cell? ⟨b,o,none⟩=some (.pointer none)) (hsh:w.shape? b=some (T,n)) (hlt:o<n) (hl:liesAt Tryz.prog Tryz.prog.depth T (n / Tryz.prog.cellsOf T) o 85 1=true) (hfz:w.frozen? ⟨b,o,none⟩=false):
  Calls Tryz.prog 79 #[.pointer (some ⟨b,o,none⟩)] w fun e w'=>e= .returned (.tuple #[])∧w'=w.setCell ⟨b,o,none⟩ (.pointer (some ⟨b,o,none⟩)):=by
 obtain ⟨j,hj,hjs⟩:=bsize
 go_enter Tryz.func79,Tryz.ntmps79
 go_wp2
 rw [Lib.run_to_unsafe w ⟨b,o,none⟩ Tryz.underlying82 Tryz.underlying182 hj (by rw [hjs];decide) hsh hlt]
 simp only [Result.andThen]
 rw [Oper.upon_value]
 go_wp2
 rw [run_callFunc_extern Tryz.func113 (by kernel_rfl) (by kernel_rfl) (by kernel_rfl) (e:=Extern.AbiNoEscape.same) (by kernel_rfl)]
 rw [Lib.run_noEscape]
 simp only [Result.andThen]
 rw [Oper.upon_value]
 go_wp2
 rw [Lib.run_from_unsafe w ⟨b,o,none⟩ Tryz.underlying182 Tryz.underlying82 hj hsh hl]
 simp only [Result.andThen]
 rw [Oper.upon_value]
 go_wp2
 go_end0
 exact ⟨rfl,rfl⟩
end Go.Proofs.YtgkjmbopnaeanaaGreat
namespace Go.Proofs.YtgkjmbopnaeanaaGreat
open Go
section
variable {P : Program}
open Go.Lib
theorem zir (w:World) (base:Nat) (t u ty e:TypeId) (i:TypeInfo) (ht:P.underlying t=some (.slice e)) (hu:P.underlying u=some .string) (hi:P.info? e=some i) (hz:i.zero=some (.int .u8 0))
  (hsize:i.size=1) (hby:i.bytes=1)
  (v:Value) (n:Nat) (xs:List Value) (hown:w.ownsRow base e 1 v n xs) (s:ByteArray)
  (h63:n+s.size≤maxLen) (hbytes:n+s.size≤140737488355328) (hbase:base≤w.heap.size):
  ∃v' w',(Builtin.append_ #[t,u] ty #[v,.string s]).run P w= .ok v' w'∧w'.ownsRow base e 1 v' (n+s.size) (xs++strCells s)∧w.grownBy w' v.ownBlock∧
   ((∀g,v'.ownBlock=some g→v.ownBlock=some g∨(w.heap.size≤g∧g<w'.heap.size))∧(s.size=0→v'=v)):=by
 have hsmall:n+s.size≤9223372036854775807:=by simp only [maxLen] at h63;omega
 have hxl:xs.length=n:=by simpa using hown.1
 have hlen:(xs++strCells s).length=(n+s.size)*1:=by rw [List.length_append,hxl,strCells_length,Nat.mul_one]
 have grown:∀ (old:Nat),old<n+s.size→∀ (row:Option Nat),
   (w.drew.alloc (.cells (xs.toArray++(strCells s).toArray++Builtin.zeroCells (Value.int .u8 0).cells (grownCap w (n+s.size) old e - (n+s.size))) e)).ownsRow base e 1
    (.slice (some ⟨w.heap.size,0,none⟩) (n+s.size) (grownCap w (n+s.size) old e)) (n+s.size) (xs++strCells s)∧
   w.grownBy (w.drew.alloc (.cells (xs.toArray++(strCells s).toArray++Builtin.zeroCells (Value.int .u8 0).cells (grownCap w (n+s.size) old e - (n+s.size))) e)) row:=by
  intro old ho row
  have hge:=grownCap_ge w (n+s.size) old e
  have hcm:grownCap w (n+s.size) old e≤maxLen:=grownCap_le_maxLen w (n+s.size) old e h63
  refine ⟨⟨hlen,.inr ⟨w.heap.size,_,_,rfl,hbase,Go.heap_alloc_new w.drew _,hge,hcm,?_,?_⟩⟩,⟨rfl,rfl,rfl,by simp,fun k hk _=>Go.heap_alloc_old w.drew _ hk⟩⟩
  ·have hz1:(Value.int IntKind.u8 0).cells.size=1:=rfl
   simp only [Array.size_append,List.size_toArray,size_zeroCells,hz1,hxl,strCells_length]
   omega
  ·simp only [Array.toList_append,List.append_assoc]
   rw [← List.append_assoc,← hlen]
   exact List.take_left
 rcases hown.2 with ⟨rfl,rfl⟩|⟨g,cap,cur,rfl,hbg,hg,hnc,hcm,hcs,htake⟩
 ·have hx:xs= []:=List.eq_nil_of_length_eq_zero hxl
  subst hx
  by_cases hm:s.size=0
  ·have hn:strCells s= []:=List.eq_nil_of_length_eq_zero (by rw [strCells_length];exact hm)
   refine ⟨.slice none 0 0,w,?_,by rw [hm,hn];exact World.ownsRow_nil w base e 1,⟨rfl,rfl,rfl,Nat.le_refl _,fun _ _ _=>rfl⟩,fun g hg=> .inl hg,fun _=>rfl⟩
   have hf:=run_firstCells_string (P:=P) w 1 s
   rw [hm] at hf
   simp [Builtin.append_,run_underlying ht,run_underlying hu,sizeOf,typeInfo,hi,hsize,Builtin.lenOf,hm,hf]
  ·have hr:=run_append_nil_string (P:=P) w t u ty e i (.int .u8 0) ht hu hi hz s (by omega) (by omega) (by rw [hby];omega)
   have hgr:=grown 0 (by omega) (Value.ownBlock (.slice none 0 0))
   simp only [Nat.zero_add,List.nil_append,Array.empty_append] at hgr ⊢
   have e1:(s.data.map fun b=>Value.int .u8 b.toNat)=(strCells s).toArray:=by
    apply Array.ext'
    simp [strCells]
   rw [e1] at hr
   exact ⟨_,_,hr,hgr.1,hgr.2,fun g hg=> .inr (by simp [Value.ownBlock] at hg;subst hg;simp),fun e=>absurd e hm⟩
 ·by_cases hroom:n+s.size≤cap
  ·have hcs':cur.size=cap:=by simpa using hcs
   have hr:=run_append_room_string (P:=P) w t u ty e i ht hu hi hsize g n cap cur hg s hroom (by omega)
   refine ⟨_,_,hr,⟨hlen,.inr ⟨g,cap,_,rfl,hbg,setRow_heap w g cur _ e _ hg,hroom,hcm,?_,?_⟩⟩,⟨rfl,rfl,rfl,by simp,fun k _ hk=>setRow_other w g k _ (fun e=>hk (by simp [Value.ownBlock,e]))⟩,fun g hg=> .inl hg,fun e=>by rw [e];rfl⟩
   ·simp only [List.size_toArray,List.length_append,List.length_take,List.length_drop,Array.length_toList,strCells_length]
    omega
   ·have ht':cur.toList.take n=xs:=by simpa using htake
    rw [ht',← hlen]
    exact List.take_left
  ·have holds:∀j u,xs[j]?=some u→w.cell? ((⟨g,0,none⟩:Addr).add j)=some u:=hown.cells (g:=g) rfl
   have hr:=run_append_grow_string (P:=P) w t u ty e i (.int .u8 0) ht hu hi hz ⟨g,0,none⟩ n cap xs (by rw [hsize];simpa using hxl) holds s (by omega) (by omega) (by rw [hby];exact growslice_fits (by omega) (by omega))
   have hgr:=grown cap (by omega) (Value.ownBlock (.slice (some ⟨g,0,none⟩) n cap))
   exact ⟨_,_,hr,hgr.1,hgr.2,fun g hg=> .inr (by simp [Value.ownBlock] at hg;subst hg;simp),fun e=>by omega⟩
theorem zgq (w:World) {ops:Array Oper} {rest:List Oper} {o:Oper} {a:Act} {Q:Exit→Act→World→Prop} (hgd:o.guard=none) (sl x:Operand) (t u:TypeId)
  (ho:o.op= .call { callee:= .builtin .append,args:= #[sl,x],argTypes:= #[t,u] })
  (base:Nat) (e:TypeId) (i:TypeInfo) (ht:P.underlying t=some (.slice e)) (hu:P.underlying u=some .string) (hi:P.info? e=some i) (hz:i.zero=some (.int .u8 0))
  (hsize:i.size=1) (hby:i.bytes=1)
  (v:Value) (n:Nat) (xs:List Value) (hs:a.eval sl=v) (hown:w.ownsRow base e 1 v n xs) (s:ByteArray) (hx:a.eval x= .string s)
  (h63:n+s.size≤maxLen) (hbytes:n+s.size≤140737488355328) (hbase:base≤w.heap.size)
  (h:∀v' w',w'.ownsRow base e 1 v' (n+s.size) (xs++strCells s)→w.grownBy w' v.ownBlock→((∀g,v'.ownBlock=some g→v.ownBlock=some g∨(w.heap.size≤g∧g<w'.heap.size))∧(s.size=0→v'=v))→wpList P ops Q rest (a.put o.dst v') w'):wpList P ops Q (o::rest) a w:=by
 refine wpList_plain hgd fun K hK=>?_
 obtain ⟨v',w',hr,h2,h3,h4⟩:=zir (P:=P) w base t u o.type e i ht hu hi hz hsize hby v n xs hown s h63 hbytes hbase
 unfold Oper.wp execOp
 simp only [ho,resolve,invoke,builtin,Sem.run_bind,Sem.run_pure,Result.andThen_ok,List.map_toArray,List.map_cons,List.map_nil,hs,hx,hr]
 exact hK _ _ (h v' w' h2 h3 h4)
end
open Go.RowKit
theorem zi9 {w:World} {b o o':Nat} {v:Value} (h:o≠o'):(w.setCell ⟨b,o,none⟩ v).cell? ⟨b,o',none⟩=w.cell? ⟨b,o',none⟩:=by
 unfold World.setCell World.cell?
 simp only [Array.getElem?_modify,if_true]
 cases w.heap[b]? with
 |none=>rfl
 |some ob=>
  cases ob<;>simp [Array.getElem?_setIfInBounds_ne h]
theorem zht {w:World} {b o o':Nat} {v:Value} :(w.setCell ⟨b,o,none⟩ v).frozen? ⟨b,o',none⟩=w.frozen? ⟨b,o',none⟩:=by
 unfold World.setCell World.frozen?
 simp only [Array.getElem?_modify,if_true]
 cases w.heap[b]? with
 |none=>rfl
 |some ob=>
  cases ob<;>simp
theorem znC {w:World} {e:TypeId} {v:Value} {k:Nat} {bs:List Value} {b o:Nat} {x:Value} (h:w.ownsRow 0 e 1 v k bs) (hne:v.ownBlock≠some b):(w.setCell ⟨b,o,none⟩ x).ownsRow 0 e 1 v k bs:=by
 refine ⟨h.1,?_⟩
 rcases h.2 with hn|⟨g,cap,cur,rfl,hb,hgg,rest⟩
 ·exact .inl hn
 ·refine .inr ⟨g,cap,cur,rfl,hb,?_,rest⟩
  have:b≠g:=fun e=>hne (by simp [Value.ownBlock,e])
  unfold World.setCell
  rw [Array.getElem?_modify,if_neg this]
  exact hgg
theorem zqp (b o n:Nat) (T:TypeId) (w:World) (h0:w.cell? ⟨b,o,none⟩=some (.pointer none)∨w.cell? ⟨b,o,none⟩=some (.pointer (some ⟨b,o,none⟩))) (hsh:w.shape? b=some (T,n)) (hlt:o<n) (hl:liesAt Tryz.prog Tryz.prog.depth T (n / Tryz.prog.cellsOf T) o 85 1=true) (hfz:w.frozen? ⟨b,o,none⟩=false):
  Calls Tryz.prog 79 #[.pointer (some ⟨b,o,none⟩)] w fun e w'=>e= .returned (.tuple #[])∧((w'=w∧w.cell? ⟨b,o,none⟩=some (.pointer (some ⟨b,o,none⟩)))∨w'=w.setCell ⟨b,o,none⟩ (.pointer (some ⟨b,o,none⟩))):=by
 rcases h0 with h0|h0
 ·refine (zqo b o n T w h0 hsh hlt hl hfz).mono ?_
  rintro e w' ⟨rfl,rfl⟩
  exact ⟨rfl,.inr rfl⟩
 ·refine (zst b o w h0).mono ?_
  rintro e w' ⟨rfl,rfl⟩
  exact ⟨rfl,.inl ⟨rfl,h0⟩⟩
theorem znD (b o n:Nat) (T:TypeId) (w:World) (v:Value) (k:Nat) (bs:List Value) (s:ByteArray) (h0:w.cell? ⟨b,o,none⟩=some (.pointer none)∨w.cell? ⟨b,o,none⟩=some (.pointer (some ⟨b,o,none⟩))) (h1:w.cell? ⟨b,o+1,none⟩=some v)
  (hsh:w.shape? b=some (T,n)) (hlt:o<n) (hl:liesAt Tryz.prog Tryz.prog.depth T (n / Tryz.prog.cellsOf T) o 85 1=true) (hfz:w.frozen? ⟨b,o,none⟩=false) (hfz1:w.frozen? ⟨b,o+1,none⟩=false)
  (hown:w.ownsRow 0 5 1 v k bs) (hne:v.ownBlock≠some b) (hlen:k+s.size≤140737488355328):
  Calls Tryz.prog 35 #[.pointer (some ⟨b,o,none⟩),.string s] w fun e w'=>e= .returned (.tuple #[.int .i64 s.size,.nilIface])∧
   ∃w1 v' w2,((w1=w∧w.cell? ⟨b,o,none⟩=some (.pointer (some ⟨b,o,none⟩)))∨w1=w.setCell ⟨b,o,none⟩ (.pointer (some ⟨b,o,none⟩)))∧w2.ownsRow 0 5 1 v' (k+s.size) (bs++Lib.strCells s)∧w1.grownBy w2 v.ownBlock∧((∀g,v'.ownBlock=some g→v.ownBlock=some g∨(w1.heap.size≤g∧g<w2.heap.size))∧(s.size=0→v'=v))∧w'=w2.setCell ⟨b,o+1,none⟩ v':=by
 obtain ⟨i0,hi,hz0⟩:=Option.map_eq_some_iff.1 (show (Tryz.prog.info? 5).map (fun i=>(i.zero,i.size,i.bytes))=some (some (.int .u8 0),1,1) by kernel_rfl)
 simp only [Prod.mk.injEq] at hz0
 obtain ⟨hz0,hz1,hz2⟩:=hz0
 go_enter Tryz.func35,Tryz.ntmps35
 go_wp2_with (go_at_call 79;refine (zqp b o n T _ h0 hsh hlt hl hfz).mono ?_)
 rintro e w1 ⟨rfl,hw1⟩
 have c1:w1.cell? ⟨b,o+1,none⟩=some v:=by
  rcases hw1 with ⟨rfl,_⟩|rfl
  ·exact h1
  ·rw [zi9 (by omega)];exact h1
 have f1:w1.frozen? ⟨b,o+1,none⟩=false:=by
  rcases hw1 with ⟨rfl,_⟩|rfl
  ·exact hfz1
  ·rw [zht];exact hfz1
 have hown1:w1.ownsRow 0 5 1 v k bs:=by
  rcases hw1 with ⟨rfl,_⟩|rfl
  ·exact hown
  ·exact znC hown hne
 go_wp2_with (at_builtin;refine zgq _ rfl _ _ 83 9 rfl 0 5 i0 Tryz.underlying83 Tryz.underlying9 hi hz0 hz1 hz2 _ _ _ rfl hown1 s rfl ?c3 ?c4 ?c5 ?_)
 case c3=>unfold maxLen;omega
 case c4=>omega
 case c5=>omega
 intro v' w2 hown' hgrow hnew hnew2
 have hlt1:b<w1.heap.size:=by
  rcases Nat.lt_or_ge b w1.heap.size with h'|h'
  ·exact h'
  ·simp [World.cell?,Array.getElem?_eq_none h'] at c1
 have hb2:w2.heap[b]?=w1.heap[b]?:=hgrow.block b hlt1 (fun e=>hne e.symm)
 have d1:w2.cell? ⟨b,o+1,none⟩=some v:=by
  rw [← c1];simp only [World.cell?,hb2]
 have f2:w2.frozen? ⟨b,o+1,none⟩=false:=by
  rw [← f1];simp only [World.frozen?,hb2]
 obtain ⟨ao,n',cap,rfl⟩:∃ao n' cap,v'= .slice ao n' cap:=by
  rcases hown'.2 with ⟨hv,_⟩|⟨g,cap,cur,hv,_⟩
  ·exact ⟨_,_,_,hv⟩
  ·exact ⟨_,_,_,hv⟩
 go_wp2
 go_ret2
 exact ⟨rfl,w1,_,w2,hw1,hown',hgrow,⟨hnew,fun e=>hnew2 (by simpa using e)⟩,rfl⟩
end Go.Proofs.YtgkjmbopnaeanaaGreat
namespace Go.Proofs.YtgkjmbopnaeanaaGreat
open Go Go.RowKit
theorem zfh (W:World) (q:Option Addr):(Builtin.unsafeString_ #[145,3] 9 #[.pointer q,.int .i64 0]).run Tryz.prog W= .ok (.string .empty) W:=
 Lib.run_unsafeString_none W _ _ _ q
theorem zfi (w:World) (row:Option Nat):w.grownBy w.drew row:=⟨rfl,rfl,rfl,Nat.le_refl _,fun _ _ _=>rfl⟩
theorem zja (w:World) (g n:Nat):w.grownBy (w.drew.freeze ⟨g,0,none⟩ n) (some g):=by
 unfold World.freeze
 split
 ·exact zfi w _
 ·refine ⟨rfl,rfl,rfl,by simp,fun k hk hne=>?_⟩
  simp only [Array.getElem?_modify]
  rw [if_neg (fun e=>hne (by rw [e]))]
  rfl
theorem zqq (b o:Nat) (w:World) (h1:w.cell? ⟨b,o+1,none⟩=some (.slice none 0 0)):
  Calls Tryz.prog 36 #[.pointer (some ⟨b,o,none⟩)] w fun e w'=>e= .returned (.string ⟨#[]⟩)∧w.grownBy w' none:=by
 have hUS:=zfh
 have c1:w.drew.cell? ⟨b,o+1,none⟩=some (.slice none 0 0):=h1
 have hSD:(Builtin.unsafeSliceData_ #[83] 145 #[.slice none 0 0]).run Tryz.prog w.drew= .ok (.pointer none) w.drew:=rfl
 go_enter Tryz.func36,Tryz.ntmps36
 go_wp2
 go_region
 all_goals (go_wp2;go_ret;exact ⟨rfl,zfi w none⟩)
theorem znE (b o g cap:Nat) (w:World) (hc0:cap≠0) (h1:w.cell? ⟨b,o+1,none⟩=some (.slice (some ⟨g,0,none⟩) 0 cap)):
  Calls Tryz.prog 36 #[.pointer (some ⟨b,o,none⟩)] w fun e w'=>e= .returned (.string ⟨#[]⟩)∧w.grownBy w' (some g):=by
 have hUS:=zfh
 have c1:w.drew.cell? ⟨b,o+1,none⟩=some (.slice (some ⟨g,0,none⟩) 0 cap):=h1
 have hSD:(Builtin.unsafeSliceData_ #[83] 145 #[.slice (some ⟨g,0,none⟩) 0 cap]).run Tryz.prog w.drew= .ok (.pointer (some ⟨g,0,none⟩)) w.drew:=
  Lib.run_unsafeSliceData_row _ _ _ _ _ _ hc0
 clear hc0
 go_enter Tryz.func36,Tryz.ntmps36
 go_wp2
 go_region
 all_goals (go_wp2;go_ret;exact ⟨rfl,zfi w _⟩)
theorem zkA (b o g:Nat) (cur:Array Value) (w:World) (h1:w.cell? ⟨b,o+1,none⟩=some (.slice (some ⟨g,0,none⟩) 0 0)) (hg:w.heap[g]?=some (.cells cur 5 (0,0))):
  Calls Tryz.prog 36 #[.pointer (some ⟨b,o,none⟩)] w fun e w'=>e= .returned (.string ⟨#[]⟩)∧w.grownBy w' (some g):=by
 have hUS:=zfh
 have hlt:b<w.heap.size:=by
  rcases Nat.lt_or_ge b w.heap.size with h'|h'
  ·exact h'
  ·simp [World.cell?,Array.getElem?_eq_none h'] at h1
 have c1:w.drew.cell? ⟨b,o+1,none⟩=some (.slice (some ⟨g,0,none⟩) 0 0):=h1
 have hSD:(Builtin.unsafeSliceData_ #[83] 145 #[.slice (some ⟨g,0,none⟩) 0 0]).run Tryz.prog w.drew= .ok (.pointer (some ⟨w.drew.heap.size,0,none⟩)) (w.drew.alloc (.view ⟨g,0,none⟩ 5)):=
  Lib.run_unsafeSliceData_zero w.drew _ _ 5 Tryz.underlying145 ⟨g,0,none⟩ 0 (5,cur.size) (by have hg':w.drew.heap[g]?=some (.cells cur 5 (0,0)):=hg;simp [World.shape?,hg'])
 have c2:(w.drew.alloc (.view ⟨g,0,none⟩ 5)).cell? ⟨b,o+1,none⟩=some (.slice (some ⟨g,0,none⟩) 0 0):=by
  rw [← c1]
  simp only [World.cell?]
  rw [Lib.alloc_old w.drew _ b hlt]
 have c3:(w.alloc (.view ⟨g,0,none⟩ 5)).drew.cell? ⟨b,o+1,none⟩=some (.slice (some ⟨g,0,none⟩) 0 0):=c2
 go_enter Tryz.func36,Tryz.ntmps36
 go_wp2
 go_region
 all_goals (go_wp2;go_ret;exact ⟨rfl,⟨rfl,rfl,rfl,by simp,fun k hk _=>Lib.alloc_old w.drew _ k hk⟩⟩)
theorem znF (b o g cap:Nat) (cur:Array Value) (l:List UInt8) (w:World) (h0:l≠ []) (h1:w.cell? ⟨b,o+1,none⟩=some (.slice (some ⟨g,0,none⟩) l.length cap))
  (hown:w.ownsRow 0 5 1 (.slice (some ⟨g,0,none⟩) l.length cap) l.length (Lib.byteCells l)):
  Calls Tryz.prog 36 #[.pointer (some ⟨b,o,none⟩)] w fun e w'=>e= .returned (.string ⟨l.toArray⟩)∧w.grownBy w' (some g):=by
 have hl0:l.length≠0:=by simpa using h0
 obtain ⟨cur,hg,hnc,hcm,hcs,htake⟩:∃cur,w.heap[g]?=some (.cells cur 5 (0,0))∧l.length≤cap∧cap≤maxLen∧cur.size=cap*1∧cur.toList.take (l.length*1)=Lib.byteCells l:=by
  rcases hown.2 with ⟨_,hz⟩|⟨g',cap',cur,hv,r0,r⟩
  ·exact absurd hz hl0
  ·cases hv
   exact ⟨cur,r⟩
 have c1:w.drew.cell? ⟨b,o+1,none⟩=some (.slice (some ⟨g,0,none⟩) l.length cap):=h1
 have hSD:(Builtin.unsafeSliceData_ #[83] 145 #[.slice (some ⟨g,0,none⟩) l.length cap]).run Tryz.prog w.drew= .ok (.pointer (some ⟨g,0,none⟩)) w.drew:=
  Lib.run_unsafeSliceData_row _ _ _ _ _ _ (by omega)
 have hUS:(Builtin.unsafeString_ #[145,3] 9 #[.pointer (some ⟨g,0,none⟩),.int .i64 l.length]).run Tryz.prog w.drew= .ok (.string ⟨l.toArray⟩) (w.drew.freeze ⟨g,0,none⟩ l.length):=by
  refine Lib.run_unsafeString_row w.drew 145 3 9 5 Tryz.underlying145 (by kernel_rfl) g cur.size (by have hg':w.drew.heap[g]?=some (.cells cur 5 (0,0)):=hg;simp [World.shape?,hg']) l h0 (by omega) (by unfold maxLen at hcm;omega) ?_
  intro j x hx
  have:=hown.cells (g:=g) rfl j (.int .u8 x.toNat) (by simp [Lib.byteCells,hx])
  exact this
 clear h0 hown
 go_enter Tryz.func36,Tryz.ntmps36
 go_wp2
 go_region
 all_goals (go_wp2;go_ret;exact ⟨rfl,zja w g _⟩)
theorem zlX (b o:Nat) (w:World) (v:Value) (l:List UInt8) (h1:w.cell? ⟨b,o+1,none⟩=some v) (hown:w.ownsRow 0 5 1 v l.length (Lib.byteCells l)):
  Calls Tryz.prog 36 #[.pointer (some ⟨b,o,none⟩)] w fun e w'=>e= .returned (.string ⟨l.toArray⟩)∧w.grownBy w' v.ownBlock:=by
 rcases hown.2 with ⟨rfl,hz⟩|⟨g,cap,cur,rfl,_,hg,hnc,hcm,hcs,htake⟩
 ·have:l= []:=List.length_eq_zero_iff.1 hz
  subst this
  exact zqq b o w h1
 ·by_cases hl:l= []
  ·subst hl
   by_cases hc:cap=0
   ·subst hc
    exact zkA b o g cur w h1 hg
   ·exact znE b o g cap w hc h1
  ·exact znF b o g cap cur l w hl h1 hown
end Go.Proofs.YtgkjmbopnaeanaaGreat
namespace Go.Aw
open Go Go.Proofs Go.Proofs.YtgkjmbopnaeanaaGreat
section
variable {P : Program} {w w' w'' : World} {E E' E'' : Env} {h h' h'' : AHeap} {fl i j : Nat}
theorem EvoC.trans (a:EvoC fl E h w E' h' w') (b:EvoC fl E' h' w' E'' h'' w''):EvoC fl E h w E'' h'' w'' where
 os:=b.os.trans a.os
 tape:=b.tape.trans a.tape
 output:=b.output.trans a.output
 size:=Nat.le_trans a.size b.size
 keep:=fun k hk ho=>(b.keep k (Nat.lt_of_lt_of_le hk a.size) (fun h=>(a.own k h).elim ho (fun h=>by omega))).trans (a.keep k hk ho)
 own:=fun k h=>(b.own k h).elim (fun h=>a.own k h) (fun h=> .inr (Nat.le_trans a.size h))
 m:=b.m.trans a.m
 n:=b.n.trans a.n
 go:=fun i hi hl=>by
  obtain ⟨h1,h2⟩:=b.go i hi hl
  obtain ⟨h3,h4⟩:=a.go i hi h1
  exact ⟨h3,h4.trans h2⟩
theorem Chg.evoC (c:Chg E h w E' h' w' i) (hf:(hget h i).isSome∨fl≤i):EvoC fl E h w E' h' w':=
 have e:=c.evo (fl:=fl) hf
 ⟨e.os,e.tape,e.output,e.size,fun b hb ho=>c.blk b hb (fun ⟨h1,h2⟩=>ho ⟨i,h1,h2⟩),e.own,c.M,c.N,e.go⟩
theorem zpd {b:Nat} {c:Array Value} {T:TypeId} {fz:Nat×Nat} (g2:w.heap[b]?=some (.cells c T fz)):World.row w b (.cells c T fz)=w:=by
 obtain ⟨hlt,hb'⟩:=Array.getElem?_eq_some_iff.1 g2
 unfold World.row
 rw [← hb',Array.setIfInBounds_def,dif_pos hlt,Array.set_getElem_self]
theorem zlY {b o:Nat} {c:Array Value} {T:TypeId} {fz:Nat×Nat} {v:Value} (g2:w.heap[b]?=some (.cells c T fz)) (hc:c[o]?=some v):w.setCell ⟨b,o,none⟩ v=w:=by
 rw [zeu g2]
 have:c.setIfInBounds o v=c:=by
  obtain ⟨hlt,he⟩:=Array.getElem?_eq_some_iff.1 hc
  rw [Array.setIfInBounds_def,dif_pos hlt,← he,Array.set_getElem_self]
 rw [this]
 exact zpd g2
theorem zgX:∀ (h:AHeap) (i:Nat) (a b:AObj),hset (hset h i a) i b=hset h i b
  | [],_,_,_=>rfl
  | (k,o)::r,i,a,b=>by
    by_cases hk:k=i
    · simp [hset,hk]
    · simp [hset,hk,zgX r]
theorem pokeT (hs:SatH E h w) {o b:Nat} {t:TypeId} {cs:List AV} (hi:hget h i=some (.tvar t cs)) (hb:E.O i=some b) {x:AV} {v:Value} (hr:Rep w E h x v):
  Chg E h w E (hset h i (.tvar t (cs.set o x))) (w.setCell ⟨b,o,none⟩ v) i∧SatH E (hset h i (.tvar t (cs.set o x))) (w.setCell ⟨b,o,none⟩ v):=by
 have hob:=hs.heap i _ hi
 simp only [RepObj] at hob
 obtain ⟨b',c,T,fz,g1,g2,g3,g4,g5⟩:=hob
 rw [hb] at g1;cases g1
 rw [zeu g2]
 have ch:=zjX hs hi (cs':=cs.set o x) (by simp) hb (.cells (c.setIfInBounds o v) T fz)
 refine ⟨ch,ch.satH hs (fun ob hob=>?_)⟩
 rw [zg hi] at hob
 cases hob
 simp only [RepObj]
 refine ⟨b,_,T,fz,hb,zee (Array.getElem?_eq_some_iff.1 g2).1,?_,by simpa using g4,g5⟩
 rw [Array.toList_setIfInBounds]
 exact ch.reps (g3.set hr)
theorem zsu (hs:SatH E h w) {t:TypeId} {xs:List UInt8} {n:Nat} {v:Value} (hj:hget h j=some (.buf t xs)) (hv:Rep w E h (.bsl j n) v) (hn:n=xs.length):
  w.ownsRow 0 t 1 v xs.length (Lib.byteCells xs)∧(∀g,v.ownBlock=some g→E.O j=some g)∧(v= .slice none 0 0∧E.O j=none∨∃g,v= .slice (some ⟨g,0,none⟩) xs.length (E.C j)∧E.O j=some g):=by
 simp only [Rep] at hv
 obtain ⟨_,t',xs',h1,_,h3⟩:=hv
 rw [hj] at h1;cases h1
 have hob:=hs.heap j _ hj
 simp only [RepObj] at hob
 rcases h3 hn.symm with ⟨⟨h4,h5⟩,rfl⟩|⟨g,h4,rfl⟩
 ·have:xs= []:=List.length_eq_zero_iff.1 (by omega)
  subst this
  exact ⟨World.ownsRow_nil _ _ _ _,fun g hg=>by simp [Value.ownBlock] at hg,.inl ⟨rfl,h4⟩⟩
 ·rcases hob with ⟨q1,_⟩|⟨b',c,T,fz,q1,q2,q3,q4,q5,rfl,rfl,q7⟩
  ·rw [h4] at q1;cases q1
  ·rw [h4] at q1;cases q1
   refine ⟨⟨by simp [Lib.byteCells],.inr ⟨g,E.C j,c,by rw [hn],Nat.zero_le _,q2,q4,by unfold maxLen;omega,q3,by rw [Nat.mul_one];exact q5⟩⟩,fun g' hg=>?_,.inr ⟨g,by rw [hn],h4⟩⟩
   simp [Value.ownBlock] at hg
   rw [h4,hg]
theorem zsv {t:TypeId} {xs xs':List UInt8} (hj:hget h j=some (.buf t xs)) (g':Option Nat) (cap':Nat) {row:Option Nat} (hgrow:w.grownBy w' row) (hrow:∀g,row=some g→E.O j=some g) (hlen:xs.length≤xs'.length) (hsame:xs'.length=xs.length→g'=E.O j∧cap'=E.C j)
  (hnew:∀g,g'=some g→E.O j=some g∨(w.heap.size≤g∧g<w'.heap.size)):Chg E h w (E.set j g' cap') (hset h j (.buf t xs')) w' j where
 os:=hgrow.os
 tape:=hgrow.tape
 output:=hgrow.output
 size:=hgrow.size
 envO:=fun k e=>by simp [Env.set,e]
 envC:=fun k e=>by simp [Env.set,e]
 M:=rfl
 N:=rfl
 hh:=fun k e=>zJ e
 gi:=by
  unfold GoesOn
  rw [hj]
  exact ⟨xs',zg hj,hlen,fun e=>by simpa [Env.set] using hsame e⟩
 blk:=fun b hb hn=>hgrow.block b hb (fun e=>hn ⟨by simp [hj],hrow b e.symm⟩)
 new:=fun b _ hb=>by
  simp only [Env.set,if_true] at hb
  rcases hnew b hb with h1|h1
  ·exact .inl ⟨by simp [hj],h1⟩
  ·exact .inr h1
theorem zjb (l:List UInt8):Lib.strCells ⟨l.toArray⟩=Lib.byteCells l:=by simp [Lib.strCells,Lib.byteCells]
theorem zeK {o:Nat} {T:TypeId} {cs:List AV} {xs l:List UInt8} {n:Nat} (hi:hget h i=some (.tvar T cs)) (c0:cs[o]?=some (.d .nilp)∨cs[o]?=some (.tp i o)) (c1:cs[o+1]?=some (.bsl j n)) (hj:hget h j=some (.buf 5 xs)) (hn:n=xs.length)
  (hl:liesAt Tryz.prog Tryz.prog.depth T (cs.length / Tryz.prog.cellsOf T) o 85 1=true) (hlen:xs.length+l.length≤140737488355328):
  ACallAt Tryz.prog fl 35 [.tp i o,.d (.str l)] h (fun r h'=>r= .tup [.d (.int .i64 l.length),.d .nilif]∧h'=hset (hset h j (.buf 5 (xs++l))) i (.tvar T ((cs.set o (.tp i o)).set (o+1) (.bsl j (xs.length+l.length))))):=by
 refine ⟨zdn Tryz.func35 (by kernel_rfl) rfl,fun E w vs hs hr=>?_⟩
 simp only [Reps] at hr
 obtain ⟨v0,r0,e0,q0,v1,r1,rfl,q1,rfl⟩:=hr
 have q0':=q0
 simp only [Rep,RepD] at q0 q1
 obtain ⟨b,T',cs',hi',hb,rfl⟩:=q0
 rw [hi] at hi';cases hi'
 subst q1
 have hvs:vs= #[.pointer (some ⟨b,o,none⟩),.string ⟨l.toArray⟩]:=by cases vs;simpa using e0
 subst hvs
 have hij:i≠j:=fun e=>by rw [e,hj] at hi;cases hi
 have hob:=hs.heap i _ hi
 simp only [RepObj] at hob
 obtain ⟨b',c,T0,fz,g1,g2,g3,g4,rfl⟩:=hob
 rw [hb] at g1;cases g1
 have hcl:c.size=cs.length:=by have:=Reps.length g3;simpa using this
 obtain ⟨v,hv0,hv⟩:=Reps.get g3 c1
 have hv1:c[o+1]?=some v:=by simpa using hv0
 have hlt1:o+1<c.size:=(Array.getElem?_eq_some_iff.1 hv1).1
 obtain ⟨o1,o2,o3⟩:=zsu hs hj hv hn
 have hne:v.ownBlock≠some b:=fun e=>hij (hs.inj i j b (by simp [hi]) (by simp [hj]) hb (o2 b e))
 have hfz:∀k,k<c.size→w.frozen? ⟨b,k,none⟩=false:=fun k hk=>by
  rw [zdL g2]
  have:=g4 k hk
  simpa using this
 have hptr:Rep w E h (.tp i o) (.pointer (some ⟨b,o,none⟩)):=q0'
 have hc0:c[o]?=some (.pointer none)∨c[o]?=some (.pointer (some ⟨b,o,none⟩)):=by
  rcases c0 with c0|c0
  ·obtain ⟨u,hu,hur⟩:=Reps.get g3 c0
   simp only [Rep,RepD] at hur
   subst hur
   exact .inl (by simpa using hu)
  ·obtain ⟨u,hu,hur⟩:=Reps.get g3 c0
   simp only [Rep] at hur
   obtain ⟨b2,_,_,_,hb2,rfl⟩:=hur
   rw [hb] at hb2;cases hb2
   exact .inr (by simpa using hu)
 refine (znD b o c.size T0 w v xs.length (Lib.byteCells xs) ⟨l.toArray⟩ (by rw [zao g2];exact hc0) (by rw [zao g2];exact hv1) (by simp [World.shape?,g2]) (by omega) (by rw [hcl];exact hl) (hfz o (by omega)) (hfz (o+1) hlt1) o1 hne (by simpa [ByteArray.size] using hlen)).mono ?_
 rintro e w3 ⟨rfl,w1,v',w2,hw1,hown',hgrow,⟨hnew,hempty⟩,rfl⟩
 have hw1':w1=w.setCell ⟨b,o,none⟩ (.pointer (some ⟨b,o,none⟩)):=by
  rcases hw1 with ⟨rfl,hc⟩|h
  ·rw [zao g2] at hc
   exact (zlY g2 hc).symm
  ·exact h
 subst hw1'
 obtain ⟨ch1,hs1⟩:=pokeT hs hi hb (o:=o) hptr
 have hj1:hget (hset h i (.tvar T0 (cs.set o (.tp i o)))) j=some (.buf 5 xs):=by rw [zJ (Ne.symm hij)];exact hj
 rw [zjb] at hown'
 have hsz:(⟨l.toArray⟩:ByteArray).size=l.length:=by simp [ByteArray.size]
 rw [hsz] at hown' hempty
 obtain ⟨g',cap',hv',hg'⟩:∃ (g':Option Nat) (cap':Nat),v'.ownBlock=g'∧((v'= .slice none 0 0∧g'=none∧xs++l= [])∨∃g cur,g'=some g∧v'= .slice (some ⟨g,0,none⟩) (xs.length+l.length) cap'∧w2.heap[g]?=some (.cells cur 5 (0,0))∧xs.length+l.length≤cap'∧cap'≤maxLen∧cur.size=cap'*1∧cur.toList.take ((xs.length+l.length)*1)=Lib.byteCells xs++Lib.byteCells l)∧(l= []→g'=E.O j∧cap'=E.C j):=by
  rcases hown'.2 with ⟨rfl,hz⟩|⟨g,cap',cur,rfl,_,hx⟩
  ·refine ⟨none,E.C j,rfl,.inl ⟨rfl,rfl,?_⟩,fun hl0=>⟨?_,rfl⟩⟩
   ·have h1:xs= []:=List.length_eq_zero_iff.1 (by omega)
    have h2:l= []:=List.length_eq_zero_iff.1 (by omega)
    simp [h1,h2]
   ·have hve:=hempty (by simp [hl0])
    rcases o3 with ⟨_,h1⟩|⟨g,h1,_⟩
    ·exact h1.symm
    ·rw [h1] at hve;cases hve
  ·refine ⟨some g,cap',rfl,.inr ⟨g,cur,rfl,rfl,hx⟩,fun hl0=>?_⟩
   have hve:=hempty (by simp [hl0])
   rcases o3 with ⟨h1,_⟩|⟨g2,h1,h2⟩
   ·rw [h1] at hve;cases hve
   ·rw [h1] at hve
    simp only [Value.slice.injEq,Option.some.injEq,Addr.mk.injEq] at hve
    obtain ⟨⟨rfl,_⟩,_,rfl⟩:=hve
    exact ⟨h2.symm,rfl⟩
 obtain ⟨hg',hsame⟩:=hg'
 have ch2:Chg E (hset h i (.tvar T0 (cs.set o (.tp i o)))) (w.setCell ⟨b,o,none⟩ (.pointer (some ⟨b,o,none⟩))) (E.set j g' cap') (hset (hset h i (.tvar T0 (cs.set o (.tp i o)))) j (.buf 5 (xs++l))) w2 j:=
  zsv hj1 g' cap' hgrow (fun g hg=>o2 g hg) (by simp) (fun e=>hsame (by simpa using e)) (fun g hg=>by
   rcases hnew g (by rw [hv',hg]) with h1|h1
   ·exact .inl (o2 g h1)
   ·exact .inr h1)
 have hs2:=ch2.satH hs1 (fun ob hob=>by
  rw [zg hj1] at hob
  cases hob
  simp only [RepObj,Env.set,if_true]
  rcases hg' with ⟨_,h1,h2⟩|⟨g,cur,h1,h2,h3,h4,h5,h6,h7⟩
  ·exact .inl ⟨h1,.inl h2⟩
  ·refine .inr ⟨g,cur,5,(0,0),h1,h3,h6,by simpa using h4,?_,rfl,rfl,by unfold maxLen at h5;omega⟩
   rw [Nat.mul_one] at h7
   rw [List.length_append,h7]
   simp [Lib.byteCells])
 have hi2:hget (hset (hset h i (.tvar T0 (cs.set o (.tp i o)))) j (.buf 5 (xs++l))) i=some (.tvar T0 (cs.set o (.tp i o))):=by rw [zJ hij];exact zg hi
 have hb2:(E.set j g' cap').O i=some b:=by simp [Env.set,hij,hb]
 have hrv':Rep w2 (E.set j g' cap') (hset (hset h i (.tvar T0 (cs.set o (.tp i o)))) j (.buf 5 (xs++l))) (.bsl j (xs.length+l.length)) v':=by
  simp only [Rep]
  rcases hg' with ⟨h0,h1,h2⟩|⟨g,cur,h1,h2,h3,h4,h5,h6,h7⟩
  ·have h3:xs.length+l.length=0:=by have:=congrArg List.length h2;simpa using this
   exact ⟨⟨_,_,_,h0⟩,_,_,zg hj1,by simp,fun _=> .inl ⟨⟨by simp [Env.set,h1],h3⟩,h0⟩⟩
  ·exact ⟨⟨_,_,_,h2⟩,_,_,zg hj1,by simp,fun _=> .inr ⟨g,by simp [Env.set,h1],by simp [Env.set,h2]⟩⟩
 obtain ⟨ch3,hs3⟩:=pokeT hs2 hi2 hb2 (o:=o+1) hrv'
 have eh:hset (hset (hset h i (.tvar T0 (cs.set o (.tp i o)))) j (.buf 5 (xs++l))) i (.tvar T0 ((cs.set o (.tp i o)).set (o+1) (.bsl j (xs.length+l.length))))=hset (hset h j (.buf 5 (xs++l))) i (.tvar T0 ((cs.set o (.tp i o)).set (o+1) (.bsl j (xs.length+l.length)))):=by
  rw [zll h hij,zgX]
 refine ⟨_,_,_,_,rfl,⟨rfl,rfl⟩,eh ▸ hs3,?_,eh ▸ ((ch1.evoC (.inl (by simp [hi]))).trans ((ch2.evoC (.inl (by simp [hj1]))).trans (ch3.evoC (.inl (by simp [hi2]))))),fun x y hxy=>eh ▸ ch3.rep (ch2.rep (ch1.rep hxy))⟩
 simp only [Rep,Reps,RepD]
 refine ⟨_,rfl,_,_,rfl,?_,_,_,rfl,rfl,rfl⟩
 rw [hsz]
noncomputable def gone:List UInt8:=List.replicate zhJ 0
theorem znG:gone.length=zhJ:=by unfold gone;exact List.length_replicate ..
attribute [irreducible] gone
theorem zgr {o:Nat} {T:TypeId} {cs:List AV} {xs:List UInt8} {n:Nat} (hi:hget h i=some (.tvar T cs)) (c1:cs[o+1]?=some (.bsl j n)) (hj:hget h j=some (.buf 5 xs)) (hn:n=xs.length) (hlen:xs.length≤140737488355328):
  ACallAt Tryz.prog fl 36 [.tp i o] h (fun r h'=>r= .d (.str xs)∧h'=hset h j (.buf 5 gone)):=by
 refine ⟨zdn Tryz.func36 (by kernel_rfl) rfl,fun E w vs hs hr=>?_⟩
 simp only [Reps] at hr
 obtain ⟨v0,r0,e0,q0,rfl⟩:=hr
 have q0':=q0
 simp only [Rep] at q0
 obtain ⟨b,T',cs',hi',hb,rfl⟩:=q0
 rw [hi] at hi';cases hi'
 have hvs:vs= #[.pointer (some ⟨b,o,none⟩)]:=by cases vs;simpa using e0
 subst hvs
 have hob:=hs.heap i _ hi
 simp only [RepObj] at hob
 obtain ⟨b',c,T0,fz,g1,g2,g3,g4,rfl⟩:=hob
 rw [hb] at g1;cases g1
 obtain ⟨v,hv0,hv⟩:=Reps.get g3 c1
 have hv1:c[o+1]?=some v:=by simpa using hv0
 obtain ⟨o1,o2,o3⟩:=zsu hs hj hv hn
 refine (zlX b o w v xs (by rw [zao g2];exact hv1) o1).mono ?_
 rintro e w3 ⟨rfl,hgrow⟩
 have hgl:=znG
 have hdl:zhJ=9223372036854775808:=rfl
 have ch:Chg E h w (E.set j none 0) (hset h j (.buf 5 gone)) w3 j:=
  zsv hj none 0 hgrow (fun g hg=>o2 g hg) (by omega) (fun e=>by omega) (fun g hg=>by cases hg)
 have hs2:=ch.satH hs (fun ob hob=>by
  rw [zg hj] at hob
  cases hob
  simp only [RepObj,Env.set,if_true]
  exact .inl ⟨trivial,.inr hgl⟩)
 exact ⟨_,_,_,_,rfl,⟨rfl,rfl⟩,hs2,by simp only [Rep,RepD],ch.evoC (.inl (by simp [hj])),fun x y hxy=>ch.rep hxy⟩
theorem zgs {cx:Cx} {c:Code} {Q:Exit→AS→Prop} {s:AS} (i o:Nat) {T:TypeId} {cs:List AV} (hi:hget s.h i=some (.tvar T cs)) (ho:cs[o]?=some (.nils 1))
    (h:AW cx c Q { s with h:=(fresh cx.fl s.h,.buf 5 [])::hset s.h i (.tvar T (cs.set o (.bsl (fresh cx.fl s.h) 0))) }):AW cx c Q s:=fun E a w hs=>by
  have hne:fresh cx.fl s.h≠i:=fun e=>by
    have:=zcN cx.fl s.h
    rw [e,hi] at this;cases this
  have cc:Chg E s.h w (E.set (fresh cx.fl s.h) none 0) ((fresh cx.fl s.h,.buf 5 [])::s.h) w (fresh cx.fl s.h):=
    { os:=rfl,tape:=rfl,output:=rfl,size:=Nat.le_refl _,envO:=fun j e=>by simp [Env.set,e],envC:=fun j e=>by simp [Env.set,e],M:=rfl,N:=rfl,hh:=fun j e=>by simp [hget,Ne.symm e],
      gi:=by simp [GoesOn,zcN]
      blk:=fun b hb _=>rfl
      new:=fun b _ hb=>by simp [Env.set] at hb }
  have hs1:=cc.sat (t:=s.t) (g:=s.g) hs (fun o ho=>by
    simp [hget] at ho
    subst ho
    simp only [RepObj]
    exact .inl ⟨by simp [Env.set],.inl trivial⟩)
  have hi1:hget ((fresh cx.fl s.h,.buf 5 [])::s.h) i=some (.tvar T cs):=by simp [hget,hne,hi]
  have e1:(fresh cx.fl s.h,AObj.buf 5 [])::hset s.h i (.tvar T (cs.set o (.bsl (fresh cx.fl s.h) 0)))=hset ((fresh cx.fl s.h,.buf 5 [])::s.h) i (.tvar T (cs.set o (.bsl (fresh cx.fl s.h) 0))):=by
    simp [hset,hne]
  obtain ⟨E1,hE1⟩:∃E1,E1=E.set (fresh cx.fl s.h) none 0:=⟨_,rfl⟩
  rw [← hE1] at hs1 cc
  obtain ⟨b,c',T',fz,g1,g2,g3,g4,g5⟩:=hs1.hp.tvar hi1
  have ch:=zjX (w:=w) hs1.hp hi1 (cs':=cs.set o (.bsl (fresh cx.fl s.h) 0)) (by simp) g1 (.cells c' T' fz)
  rw [zpd g2] at ch
  have hs2:=ch.sat (t:=s.t) (g:=s.g) hs1 (fun ob hob=>by
    rw [zg hi1] at hob
    cases hob
    simp only [RepObj]
    refine ⟨b,c',T',fz,g1,g2,?_,g4,g5⟩
    obtain ⟨v,hv,hvr⟩:=Reps.get g3 ho
    simp only [Rep] at hvr
    subst hvr
    have:=g3.set (i:=o) (a:= .bsl (fresh cx.fl s.h) 0) (v:= .slice none 0 0) (by
      simp only [Rep]
      refine ⟨⟨_,_,_,rfl⟩,5,[],by simp [hget],by simp,fun _=> .inl ⟨⟨by simp [hE1,Env.set],trivial⟩,trivial⟩⟩)
    have e2:c'.toList.set o (.slice none 0 0)=c'.toList:=by
      obtain ⟨hlt,he⟩:=List.getElem?_eq_some_iff.1 hv
      rw [← he,List.set_getElem_self]
    rw [e2] at this
    exact ch.reps this)
  rw [← e1] at hs2
  refine wpIn_mono (h _ a w hs2) (fun _ _ _ hr=>hr.trans (Evo.trans (cc.evo (.inr (zbb _ _))) ?_))
  rw [e1]
  exact ch.evo (.inl (by simp [hi1]))
end
open Go Go.Proofs
abbrev Txt:=List UInt8
abbrev PutR:=Int×Txt
def putD (q:PutR):List D:= [.int .i64 q.1,.str q.2]
theorem zhB:∀a b,putD a=putD b→a=b:=by
 rintro ⟨a,b⟩ ⟨a',b'⟩ h
 simpa [putD] using h
structure Disk where
 data:Txt
 cache:List PutR
 fuse:Int
 off:Bool
 bad:List Int
 deriving DecidableEq
def diskA (d:Disk):AV:= .agg [.d (.str d.data),.d (.sl 2 (d.cache.map putD)),.d (.int .i64 d.fuse),.d (.bool d.off),.d (.sl 1 (d.bad.map intD))]
attribute [go_sem] diskA
def diskC (d:Disk):List AV:= [.d (.str d.data),.d (.sl 2 (d.cache.map putD)),.d (.int .i64 d.fuse),.d (.bool d.off),.d (.sl 1 (d.bad.map intD))]
attribute [go_sem] diskC
theorem zki (d:Disk):Disk.mk d.data d.cache d.fuse d.off d.bad=d:=rfl
noncomputable def zA:PT Disk:=aggT (consL strT (consL (slT 2 putD zhB) (consL (intT .i64) (consL boolT (consL (slT 1 intD zc2) nilL))))) (fun p=>⟨p.1,p.2.1,p.2.2.1,p.2.2.2.1,p.2.2.2.2.1⟩) (fun x=>(x.data,x.cache,x.fuse,x.off,x.bad,())) (fun _=>rfl)
attribute [go_sem] zA
noncomputable def zrI:PT Disk:=dpT (consL strT (consL (slT 2 putD zhB) (consL (intT .i64) (consL boolT (consL (slT 1 intD zc2) nilL))))) (fun p=>⟨p.1,p.2.1,p.2.2.1,p.2.2.2.1,p.2.2.2.2.1⟩) (fun x=>(x.data,x.cache,x.fuse,x.off,x.bad,())) (fun _=>rfl)
attribute [go_sem] zrI
attribute [go_sem] zki
structure DiskOk (d:Disk):Prop where
 data:d.data.length≤9223372036854775807
 cache:d.cache.length≤9223372036854775807
 bad:d.bad.length≤9223372036854775807
 fuse0: -9223372036854775808≤d.fuse
 fuse1:d.fuse≤9223372036854775807
def dsize (d:Disk):Nat:=d.data.length / 64
def there (d:Disk) (at_:Int):Bool:=decide (0≤at_)&&decide (at_<(dsize d:Int))
theorem there_iff {d:Disk} {at_:Int} :there d at_=true↔0≤at_∧at_<((d.data.length / 64:Nat):Int):=by
 rw [there,Bool.and_eq_true]
 exact and_congr decide_eq_true_iff decide_eq_true_iff
def zc6 (d:Disk):List Int→Option Int→Bool
 | [],_=>true
 |a::l,p=>there d a&&(match p with|none=>true|some b=>decide (b<a))&&zc6 d l (some a)
def putOk (d:Disk) (q:PutR):Bool:=there d q.1&&((q.2.length:Int)==64)
def dfit (d:Disk):Bool:=
 decide (1≤dsize d)&&decide (dsize d≤1024)&&(d.data.length % 64==0)&&decide (d.cache.length≤4096)&&d.cache.all (putOk d)&&zc6 d d.bad none
def isPut (at_:Int) (q:PutR):Bool:=q.1==at_
def sees (d:Disk) (at_:Int):Txt:=
 match d.cache.reverse.find? (isPut at_) with
 |some q=>q.2
 |none=>(d.data.drop (at_*64).toNat).take 64
def dread (d:Disk) (at_:Int):Txt×Int:=
 if d.off then ([],12) else if !there d at_ then ([],10) else if d.bad.contains at_ then ([],13) else (sees d at_,0)
def burnt (d:Disk):Disk:=if 0<d.fuse then { d with fuse:=d.fuse - 1 } else d
def zU (d:Disk) (at_:Int) (s:Txt):Disk×Int:=
 if d.off then (d,12) else if !there d at_ then (d,10) else if (s.length:Int)≠64 then (d,11)
 else if d.fuse=0 then ({ d with off:=true },12) else if d.bad.contains at_ then (d,13) else if 4096≤(d.cache.length:Int) then (d,16)
 else (burnt { d with cache:=d.cache++ [(at_,s)] },0)
def lay (b:Txt) (at_:Nat) (s:Txt):Txt:=b.take at_++s++b.drop (at_+s.length)
def zd4 (b:Txt) (l:List PutR):Txt:=l.foldl (fun b q=>lay b (q.1*64).toNat q.2) b
def dflush (d:Disk):Disk×Int:=
 if d.off then (d,12) else if d.fuse=0 then ({ d with off:=true },12)
 else (burnt { d with data:=zd4 d.data d.cache,cache:= [] },0)
def dnew (n:Int):Disk×Int:=if n<1∨1024<n then (⟨[],[],0,false,[]⟩,11) else (⟨List.replicate (n*64).toNat 0,[], -1,false,[]⟩,0)
theorem zvE {n:Nat} (h:n≤9223372036854775807):IntKind.i64.wrap ((n:Int).tdiv 64)=((n / 64:Nat):Int):=by
 rw [Int.tdiv_eq_ediv_of_nonneg (by omega),IntKind.wrap_i64];omega
theorem zoT {d:Disk} (h:DiskOk d):DiskOk (burnt d):=by
 obtain ⟨h1,h2,h3,h4,h5⟩:=h
 unfold burnt
 split
 ·exact ⟨h1,h2,h3,by simp only;omega,by simp only;omega⟩
 ·exact ⟨h1,h2,h3,h4,h5⟩
open Go Go.Proofs
def putN (n:Nat):Nat→Txt
 |0=> []
 |k+1=>putN (n / 256) k++ [UInt8.ofNat n]
def takeN (l:Txt):Nat:=l.foldl (fun n c=>n*256+c.toNat) 0
theorem zlz (l:Txt) (i:Nat) (b:UInt8):(zi l).set i (ze2 b)=zi (l.set i b):=by
 simp [zi,List.map_set]
theorem zcp (l:Txt):(zi l).length=l.length:=by simp [zi]
theorem zhi {b:Txt} {k:Nat} (hk:k<b.length):(zi b).getD k []= [.int .u8 (b.getD k 0).toNat]:=by
 simp [zi,List.getD_eq_getElem?_getD,hk,ze2]
theorem zlA {b:Txt} {k:Nat} {x:Int} (hk:k<b.length) (c:UInt8) (hx:x=c.toNat):(zi b).set k (((zi b).getD k []).set 0 (D.int .u8 x))=zi (b.set k c):=by
 rw [zhi hk,List.set_cons_zero,hx]
 exact zlz b k c
theorem zt0 {b:Txt} {k:Nat} (hk:k<b.length) (c:UInt8):(b.set k c).drop k=c::b.drop (k+1):=by
 rw [List.drop_set,if_neg (by omega),Nat.sub_self,List.drop_eq_getElem_cons hk,List.set_cons_zero]
theorem zu (n k:Nat):(putN n k).length=k:=by
 induction k generalizing n with
 |zero=>rfl
 |succ k ih=>rw [putN,List.length_append,ih];rfl
theorem zlB (n i:Nat):putN n (i+1)=UInt8.ofNat (n / 256 ^ i)::putN n i:=by
 induction i generalizing n with
 |zero=>simp [putN]
 |succ i ih=>
  rw [putN,ih,putN,List.cons_append,Nat.div_div_eq_div_mul,Nat.pow_succ,Nat.mul_comm 256]
theorem zvH (n k:Nat) (hk:k≤64):ishr .u64 (n:Int) (k:Int)=((n / 2 ^ k:Nat):Int):=by
 unfold ishr
 rw [show min ((k:Int).toNat) IntKind.u64.bits=k by show min ((k:Int).toNat) 64=k;omega]
 rw [Int.fdiv_eq_ediv_of_nonneg _ (Int.le_of_lt (Int.pow_pos (by decide)))]
 norm_cast
theorem u8_of (n:Nat):IntKind.u8.wrap (n:Int)=((UInt8.ofNat n).toNat:Int):=by
 rw [IntKind.wrap_u8]
 simp
theorem zt1 {n:Int} (h0:0≤n) {i:Nat} (hi:i≤8):IntKind.u8.wrap (ishr .u64 n ((8*i:Nat):Int))=((UInt8.ofNat (n.toNat / 256 ^ i)).toNat:Int):=by
 obtain ⟨m,rfl⟩:∃m:Nat,n=m:=⟨n.toNat,by omega⟩
 rw [zvH m _ (by omega),u8_of,Int.toNat_natCast,Nat.pow_mul]
theorem zgP (l:Txt) (c:UInt8):takeN (l++ [c])=takeN l*256+c.toNat:=by
 simp [takeN,List.foldl_append]
theorem zoW (l:Txt):takeN l<256 ^ l.length:=by
 rcases List.eq_nil_or_concat l with rfl|⟨l',c,rfl⟩
 ·decide
 ·rw [List.concat_eq_append,zgP,List.length_append,List.length_singleton,Nat.pow_succ]
  have:=zoW l'
  have:=c.toNat_lt
  have h2:takeN l'+1≤256 ^ l'.length:=by omega
  have:=Nat.mul_le_mul_right 256 h2
  omega
termination_by l.length
decreasing_by subst_vars;simp
theorem zd6 {l:Txt} {i:Nat} (h:l.length≤i):takeN l<256 ^ i:=Nat.lt_of_lt_of_le (zoW l) (Nat.pow_le_pow_right (by decide) h)
theorem zT {x:Int} (h0:0≤x) (h1:x<18446744073709551616):IntKind.u64.wrap x=x:=by
 rw [IntKind.wrap_u64];omega
theorem zrQ {l:Txt} {i:Nat} {c:UInt8} (hq:l[i]?=some c) (hi:i<8):IntKind.u64.wrap (IntKind.u64.wrap ((takeN (l.take i):Nat)*256)+IntKind.u64.wrap (c.toNat:Int))=((takeN (l.take (i+1)):Nat):Int):=by
 have h1:takeN (l.take i)<256 ^ 7:=zd6 (by rw [List.length_take];omega)
 have h2:=c.toNat_lt
 rw [zT (x:=(takeN (l.take i):Nat)*256) (by omega) (by omega),zT (x:=(c.toNat:Int)) (by omega) (by omega),zT (by omega) (by omega),zcz hq,zgP]
 omega
open Go Go.Proofs
def idxP {α:Type} (p:α→Bool):List α→Nat→Int
 | [],_=> -1
 |q::l,k=>if p q=true then (k:Int) else idxP p l (k+1)
abbrev Idst {α:Type} (p:α→Bool) (l:List α):= { i:Nat // i≤l.length∧idxP p l 0=idxP p (l.drop i) i }
theorem znb {α:Type} (p:α→Bool):∀ (l:List α) (k:Nat),decide ((0:Int)≤idxP p l k)=l.any p
 | [],k=>rfl
 |q::l,k=>by
  rw [idxP,List.any_cons]
  by_cases h:p q=true
  ·rw [if_pos h,h,decide_eq_true (by omega)];rfl
  ·rw [if_neg h,znb p l (k+1)];simp [h]
theorem zhg {α:Type} [BEq α] [LawfulBEq α] (x:α):∀ (l:List α),l.any (fun q=>x==q)=l.contains x
 | []=>rfl
 |q::l=>by rw [List.any_cons,zhg x l,List.contains_cons]
theorem znc (l:List Int) (x:Int) (hl:l.length≤9223372036854775807):AC 178 [.d (.sl 1 (l.map intD)),.d (.int .i64 x)] (.d (.int .i64 (idxP (fun q=>x==q) l 0))):=by
 refine bod Tryz.func178 Tryz.ntmps178 (fun base=>?_)
 refine' zc fx
 refine zo (fun q:Idst (fun q=>x==q) l=>⟨[(0,true,.d (.sl 1 (l.map intD))),(1,true,.d (.int .i64 x)),(7,true,.d (.int .i64 l.length)),(8,true,.d (.int .i64 q.1))],[],some []⟩) (fun q=>l.length - q.1) ⟨0,Nat.zero_le _,rfl⟩ le1 (fun q=>?_)
 obtain ⟨i,hi,hf⟩:=q
 simp only at hi hf ⊢
 rcases zD intD l i hi with ⟨m,hq,hlt,hcmp,hrow,hdr,htk⟩|⟨hend,hcmp⟩
 ·simp only [intD] at hrow
  have hwi:=zn (i:=i) (by omega)
  refine' zc (zk hcmp hrow)
  ·rw [hf,hdr,idxP,if_pos (by simpa using hc)]
  ·exact ⟨⟨i+1,by omega,by rw [hf,hdr,idxP,if_neg (by simpa using hc)]⟩,lew,by simp;omega⟩
 ·refine' zc hcmp
  rw [hf,hend,List.drop_length]
  rfl
@[go_sem] noncomputable def zbt:Ent Tryz.prog 178:= .m2 (slT 1 intD zc2) (intT .i64) znc
theorem zi3 (l:List Int) (x:Int) (hl:l.length≤9223372036854775807):AC 187 [.d (.sl 1 (l.map intD)),.d (.int .i64 x)] (.d (.bool (l.contains x))):=by
 refine bod Tryz.func187 Tryz.ntmps187 (fun base=>?_)
 refine' walkW fx (za zbt <| zb _)
 rw [znb,zhg]
@[go_sem] noncomputable def zdk:Ent Tryz.prog 187:= .m2 (slT 1 intD zc2) (intT .i64) zi3
theorem zwb (d:Disk) (hd:DiskOk d):AC 217 [diskA d] (.d (.int .i64 (dsize d))):=by
 refine bod Tryz.func217 Tryz.ntmps217 (fun base=>?_)
 refine' zc (zvE hd.data)
 rfl
@[go_sem] noncomputable def zrP:Ent Tryz.prog 217:= .m1 zA zwb
theorem zxs (d:Disk) (at_:Int):(decide (at_<0)||decide (((dsize d:Nat):Int)≤at_))= !there d at_:=by
 rw [there,Bool.not_and]
 congr 1
 ·by_cases h:at_<0
  ·rw [decide_eq_true h,decide_eq_false (by omega)];rfl
  ·rw [decide_eq_false h,decide_eq_true (by omega)];rfl
 ·by_cases h:at_<(dsize d:Int)
  ·rw [decide_eq_true h,decide_eq_false (by omega)];rfl
  ·rw [decide_eq_false h,decide_eq_true (by omega)];rfl
theorem zxt (d:Disk) (at_:Int) (hd:DiskOk d):AC 186 [diskA d,.d (.int .i64 at_)] (.d (.bool (!there d at_))):=by
 refine bod Tryz.func186 Tryz.ntmps186 (fun base=>?_)
 refine' walkW fx (za zrP <| zb _)
 rw [zxs]
@[go_sem] noncomputable def zkj:Ent Tryz.prog 186:= .m2 zA (intT .i64) zxt
open Go Go.Proofs
open Go Go.Proofs
def zel (g h:Int):Bool:=decide (1≤g)&&decide (g≤64)&&decide (8≤h)&&decide (h≤256)
def zia (g h:Int):Int:=if zel g h then 96+2*h else 0
theorem geo_iff {g h:Int} :zel g h=true↔1≤g∧g≤64∧8≤h∧h≤256:=by
 simp [zel,and_assoc]
theorem zwh (k:Int) (hp:0≤k∧k≤1000000):AC 129 [.d (.int .i64 k)] (.d (.int .i64 (96+2*k))):=by
 obtain ⟨h0,h1⟩:=hp
 refine bod Tryz.func129 Tryz.ntmps129 (fun base=>?_)
 have hm:IntKind.i64.wrap (2*k)=2*k:=ze (by omega) (by omega)
 have hm2:IntKind.i64.wrap (96+2*k)=96+2*k:=ze (by omega) (by omega)
 refine' zc (zk hm hm2)
@[go_sem] noncomputable def z8:Ent Tryz.prog 129:= .m1 (intT .i64) zwh
theorem at_ok (k:Int) (hp:0≤k∧k≤1000000):AC 185 [.d (.int .i64 k)] (.d (.int .i64 (96+2*k))):=by
 obtain ⟨h0,h1⟩:=hp
 refine bod Tryz.func185 Tryz.ntmps185 (fun base=>?_)
 have hm:IntKind.i64.wrap (2*k)=2*k:=ze (by omega) (by omega)
 have hm2:IntKind.i64.wrap (96+2*k)=96+2*k:=ze (by omega) (by omega)
 refine' zc (zk hm hm2)
@[go_sem] noncomputable def zck:Ent Tryz.prog 185:= .m1 (intT .i64) at_ok
theorem zt4 (k:Int) (hp:0≤k∧k≤1000000):AC 103 [.d (.int .i64 k)] (.tup [.d (.int .i64 (87+k / 32)),.d (.int .i64 (2*(k % 32)))]):=by
 obtain ⟨h0,h1⟩:=hp
 refine bod Tryz.func103 Tryz.ntmps103 (fun base=>?_)
 have hm:IntKind.i64.wrap (k.tdiv 32)=k / 32:=by rw [Int.tdiv_eq_ediv_of_nonneg h0,ze (by omega) (by omega)]
 have hm2:IntKind.i64.wrap (87+k / 32)=87+k / 32:=ze (by omega) (by omega)
 have hm3:k.tmod 32=k % 32:=Int.tmod_eq_emod_of_nonneg h0
 have hm4:IntKind.i64.wrap (2*(k % 32))=2*(k % 32):=ze (by omega) (by omega)
 refine' zc (zS hm hm2 hm3 hm4)
@[go_sem] noncomputable def zdy:Ent Tryz.prog 103:= .m1 (intT .i64) zt4
theorem zwi {k:Int} (h0:0≤k):ishr .i64 k 5=k / 32:=by
 unfold ishr
 rw [show min ((5:Int).toNat) IntKind.i64.bits=5 from rfl,Int.fdiv_eq_ediv_of_nonneg _ (by decide)]
 rfl
theorem zwj {k:Int} (h0:0≤k) (h1:k≤1000000):ibits .and .i64 k 31=k % 32:=by
 obtain ⟨m,rfl⟩:∃m:Nat,k=m:=⟨k.toNat,by omega⟩
 show IntKind.i64.wrap ((BitVec.ofInt 64 (m:Int)&&& BitVec.ofInt 64 31).toNat:Int)=_
 rw [BitVec.ofInt_natCast,show BitVec.ofInt 64 31=BitVec.ofNat 64 31 from rfl,BitVec.toNat_and,BitVec.toNat_ofNat,BitVec.toNat_ofNat,Nat.mod_eq_of_lt (by omega),Nat.mod_eq_of_lt (by omega),show (31:Nat)=2 ^ 5 - 1 from rfl,Nat.and_two_pow_sub_one_eq_mod,ze (by omega) (by omega)]
 omega
theorem zxw (k:Int) (hp:0≤k∧k≤1000000):AC 223 [.d (.int .i64 k)] (.tup [.d (.int .i64 (87+k / 32)),.d (.int .i64 (2*(k % 32)))]):=by
 obtain ⟨h0,h1⟩:=hp
 refine bod Tryz.func223 Tryz.ntmps223 (fun base=>?_)
 have hm:=zwi h0
 have hm2:IntKind.i64.wrap (87+k / 32)=87+k / 32:=ze (by omega) (by omega)
 have hm3:=zwj h0 h1
 have hm4:IntKind.i64.wrap (k % 32*2)=2*(k % 32):=by rw [ze (by omega) (by omega)];omega
 refine' zc (zS hm hm2 hm3 hm4)
@[go_sem] noncomputable def zfy:Ent Tryz.prog 223:= .m1 (intT .i64) zxw
theorem zrU:ACall Tryz.prog 248 0 [] [] (fun r _=>r= .tup [.d (.int .i64 6),.d (.int .i64 81)]):=by
 refine bod Tryz.func248 Tryz.ntmps248 (fun base=>?_)
 refine' zc fx
@[go_sem] noncomputable def znh:Ent Tryz.prog 248:= .ofL nilL (fun _=>True) (fun _=> .tup [.d (.int .i64 6),.d (.int .i64 81)]) (fun _ hp=>⟨rfl,zrU⟩)
theorem zt5 (g:Int) (m:Int):ACall Tryz.prog 59 0 [.agg [.d (.int .i64 g),.d (.int .i64 m)]] [] (fun r _=>r= .d (.bool (zel g m))):=by
 refine bod Tryz.func59 Tryz.ntmps59 (fun base=>?_)
 refine' zc fx
 rfl
@[go_sem] noncomputable def zdz:Ent Tryz.prog 59:= .ofL (consL (aggT (consL (intT .i64) (consL (intT .i64) nilL)) (fun p=>p) (fun p=>p) (fun _=>rfl)) nilL) (fun ((g,m,_),_)=>True) (fun ((g,m,_),_)=> .d (.bool (zel g m))) (fun ((g,m,_),_) hp=>⟨rfl,zt5 g m⟩)
theorem zt6 (g:Int) (m:Int):ACall Tryz.prog 62 0 [.agg [.d (.int .i64 g),.d (.int .i64 m)]] [] (fun r _=>r= .d (.int .i64 (zia g m))):=by
 refine bod Tryz.func62 Tryz.ntmps62 (fun base=>?_)
 refine' walkW fx (za zdz <| zb _)
 ·have hc:zel g m=false:=by simpa using hc
  rw [zia,if_neg (by rw [hc];exact Bool.false_ne_true)]
 ·have hc:zel g m=true:=by simpa using hc
  have hg:=geo_iff.1 hc
  rw [zia,if_pos hc,ze (n:=2*m) (by omega) (by omega),ze (by omega) (by omega)]
@[go_sem] noncomputable def zfz:Ent Tryz.prog 62:= .ofL (consL (aggT (consL (intT .i64) (consL (intT .i64) nilL)) (fun p=>p) (fun p=>p) (fun _=>rfl)) nilL) (fun ((g,m,_),_)=>True) (fun ((g,m,_),_)=> .d (.int .i64 (zia g m))) (fun ((g,m,_),_) hp=>⟨rfl,zt6 g m⟩)
open Go Go.Proofs
open Go Go.Proofs
open Go Go.Proofs
open Go Go.Proofs
theorem zsM {α:Type} {x y:α} {r bs:List α} (h:r.length=bs.length):putL (x::y::r) 2 bs=x::y::bs:=by
 rw [zjZ _ _ _ (by simp;omega)]
 simp
 omega
open Go Go.Proofs
open Go Go.Proofs
theorem zqD {d d':Disk} (h:d'.data.length=d.data.length) (a:Int):there d' a=there d a:=by unfold there dsize;rw [h]
theorem zl2 (d:Disk):(burnt d).bad=d.bad:=by unfold burnt;split<;>rfl
open Go Go.Proofs
open Go Go.Proofs
open Go Go.Proofs
theorem zsR {p:Nat→Bool} {h:AHeap} (hin:inH (hsel p h) (idsH (hsel p h))):Closed p h:=fun i o ho hp j hj=>by
 have h1:hget (hsel p h) i=some o:=by rw [zx,if_pos hp];exact ho
 have:=zgy hin j (zf8 h1 j hj)
 rw [zx] at this
 cases hb:p j with
 |true=>rfl
 |false=>rw [hb] at this;simp at this
open Go Go.Proofs
open Go Go.Proofs
end Go.Aw
