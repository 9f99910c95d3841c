/-
 Parts of the proof: lemmas.
-/
import Derived.Test.YtgldbfelccddbaaGreatBeg7
set_option maxRecDepth 100000
set_option maxHeartbeats 2000000
set_option linter.unusedSimpArgs false
set_option linter.unusedVariables false
namespace Go.Proofs
open Go.Shelf
def Tryz.lays137_ren:Go.Shelf.Ren:=⟨fun|137=>353|217=>394|266=>429|n=>n,fun|9=>9|5=>5|3=>3|n=>n,fun|n=>n⟩
theorem Tryz.lays137:Go.Proofs.Lays.n137 Tryz.prog Tryz.lays137_ren:= {
 mixed:=by kernel_rfl
 f137:=Tryz.func353.trans (congrArg some (by kernel_rfl))
 f217:=Tryz.func394.trans (congrArg some (by kernel_rfl))
 f266:=Tryz.func429.trans (congrArg some (by kernel_rfl))
 t3:=Tryz.underlying3
 a3:=Tryz.isAgg3
 z3:=Tryz.sizeOf3
 v3:=Tryz.zeroValue3
 t5:=Tryz.underlying5
 a5:=Tryz.isAgg5
 z5:=Tryz.sizeOf5
 v5:=Tryz.zeroValue5
 t9:=Tryz.underlying9
 a9:=Tryz.isAgg9
 z9:=Tryz.sizeOf9
 v9:=Tryz.zeroValue9 }
open Go.RowKit in
theorem Tryz.strings_IndexByte (s:ByteArray) (c:Int) (w:World):
  Calls Tryz.prog 353 #[.string s,.int .u8 c] w fun e w'=>e= .returned (.int .i64 (Lib.indexByte s.data.toList c.toNat.toUInt8))∧w'=w:=Any.strings_IndexByte Tryz.lays137 s c w
end Go.Proofs
namespace Go.Aw
open Go Go.Proofs
section
variable {P : Program} {w w' : World} {E E' : Env} {h h' : AHeap}
end
section
variable {h : AHeap}
end
open Go Go.Proofs
open Go Go.Proofs
open Go Go.Proofs
end Go.Aw
namespace Go.Proofs.YtgldbfelccddbaaGreat
open Go Go.RowKit
theorem bsize:∃j,Tryz.prog.info? 180=some j∧j.size=2:=by
 obtain ⟨j,hj,hjs⟩:=Option.map_eq_some_iff.1 (show (Tryz.prog.info? 180).map (·.size)=some 2 by kernel_rfl)
 exact ⟨j,hj,hjs⟩
theorem zl5 (b o:Nat) (w:World) (h0:w.cell? ⟨b,o,none⟩=some (.pointer (some ⟨b,o,none⟩))):
  Calls Tryz.prog 188 #[.pointer (some ⟨b,o,none⟩)] w fun e w'=>e= .returned (.tuple #[])∧w'=w:=by
 obtain ⟨j,hj,hjs⟩:=bsize
 go_enter Tryz.func188,Tryz.ntmps188
 go_wp2
 rw [Lib.run_neq_ptr_same w _ Tryz.underlying178 hj]
 go_wp2
 go_end0
 exact ⟨rfl,rfl⟩
theorem zku (b o n:Nat) (T:TypeId) (w:World) (h0:w.cell? ⟨b,o,none⟩=some (.pointer none)) (hsh:w.shape? b=some (T,n)) (hlt:o<n) (hl:liesAt Tryz.prog Tryz.prog.depth T (n / Tryz.prog.cellsOf T) o 180 1=true) (hfz:w.frozen? ⟨b,o,none⟩=false):
  Calls Tryz.prog 188 #[.pointer (some ⟨b,o,none⟩)] w fun e w'=>e= .returned (.tuple #[])∧w'=w.setCell ⟨b,o,none⟩ (.pointer (some ⟨b,o,none⟩)):=by
 obtain ⟨j,hj,hjs⟩:=bsize
 go_enter Tryz.func188,Tryz.ntmps188
 go_wp2
 rw [Lib.run_to_unsafe w ⟨b,o,none⟩ Tryz.underlying178 Tryz.underlying375 hj (by rw [hjs];decide) hsh hlt]
 simp only [Result.andThen]
 rw [Oper.upon_value]
 go_wp2
 rw [run_callFunc_extern Tryz.func257 (by kernel_rfl) (by kernel_rfl) (by kernel_rfl) (e:=Extern.AbiNoEscape.same) (by kernel_rfl)]
 rw [Lib.run_noEscape]
 simp only [Result.andThen]
 rw [Oper.upon_value]
 go_wp2
 rw [Lib.run_from_unsafe w ⟨b,o,none⟩ Tryz.underlying375 Tryz.underlying178 hj hsh hl]
 simp only [Result.andThen]
 rw [Oper.upon_value]
 go_wp2
 go_end0
 exact ⟨rfl,rfl⟩
end Go.Proofs.YtgldbfelccddbaaGreat
namespace Go.Aw
open Go Go.Proofs
open Go Go.Proofs
theorem zdH:liesAt Tryz.prog Tryz.prog.depth 180 (2 / Tryz.prog.cellsOf 180) 0 180 1=true:=by kernel_rfl
open Go Go.Proofs
theorem zcq {x:Int} (h0:0≤x) (h1:x≤4294967295):IntKind.u32.wrap x=x:=by rw [IntKind.wrap_u32];omega
open Go Go.Proofs
def zbF (kind:Int) (chunks:Bool):Int:=if kind=0 then (if chunks then 4 else 0) else if kind=1∨kind=4 then 1 else if kind=6 then 3 else if kind=3∨kind=2 then 0 else if kind=7 then 8 else -1
def cbad1 (f may:Int) (i:Nat):Bool:=(ibits .and .i64 (ishr .i64 f i) 1==1)&&(ibits .and .i64 (ishr .i64 may i) 1==0)
def cbadL (f may:Int):Nat→Nat→Bool
 |_,0=>false
 |i,n+1=>cbad1 f may i||cbadL f may (i+1) n
def cbad (f may:Int):Bool:=cbadL f may 0 16
open Go Go.Proofs
def nx1 (x:Int):Int:=ibits .xor .u64 x (ishl .u64 x 13)
def nx2 (x:Int):Int:=ibits .xor .u64 x (ishr .u64 x 7)
def nx3 (x:Int):Int:=ibits .xor .u64 x (ishl .u64 x 17)
def nxt (x:Int):Int:=nx3 (nx2 (nx1 x))
theorem zpv (x:Int):ACall Tryz.prog 277 80 [.vp 60 0] [(60,.var [.d (.int .u64 x)])] (fun r h'=>r= .d (.int .u64 (nxt x))∧h'= [(60,.var [.d (.int .u64 (nxt x))])]):=by
 refine bod Tryz.func277 Tryz.ntmps277 (fun base=>?_)
 refine' zc fx
 all_goals rfl
def bitL:Nat→Nat→Nat
 |0,_=>0
 |k+1,x=>if x=0 then 0 else bitL k (x / 2)+1
theorem zeg:∀x,x<1001→x<2 ^ bitL 20 x∧(0<x→2 ^ bitL 20 x≤2*x)∧bitL 20 x≤10:=by decide+kernel
theorem zn8 (x:Nat) (h:x<1001):ACall Tryz.prog 215 0 [.d (.int .u64 x)] [] (fun r _=>r= .d (.int .i64 (bitL 20 x))):=by
 have h1:decide ((4294967296:Int)≤x)=false:=decide_eq_false (by omega)
 have h2:decide ((65536:Int)≤x)=false:=decide_eq_false (by omega)
 refine fbod Tryz.func215 Tryz.ntmps215 (fun base=>?_)
 cases h3:decide ((256:Int)≤x) with
 | true=>
  have hx:(IntKind.u8.wrap (ishr .u64 x 8)<256)=True:=by rw [IntKind.wrap_u8];exact eq_true (by omega)
  refine' zc (zF h1 h2 h3)
  ·rw [IntKind.wrap_u8];omega
  ·have h6:256≤x:=by have:=of_decide_eq_true h3;omega
   clear h1 h2 h3 hx
   congr 2
   revert h6
   revert x
   decide+kernel
 |false=>
  have h4:=of_decide_eq_false h3
  have hw:IntKind.u8.wrap (x:Int)=x:=by rw [IntKind.wrap_u8];omega
  refine' zc (z7 h1 h2 h3 hw)
  all_goals first|omega|skip
  clear h1 h2 h3 hw
  congr 2
  have h5:x<256:=by omega
  clear h4 h
  revert x
  decide+kernel
noncomputable def zfK:Ent Tryz.prog 215:=Ent.of 215 (fun x:(Nat)=>(fun (x:Nat)=>([.d (.int .u64 x)]:List AV)) x) (fun x:(Nat)=>(fun (x:Nat)=>((x<1001):Prop)) x) (fun x:(Nat)=>(fun (x:Nat)=>(.d (.int .i64 (bitL 20 x)):AV)) x) (fun x hp=>⟨rfl,zn8 x hp⟩)
theorem zkF:∀x y:(Nat),(fun x:(Nat)=>(fun (x:Nat)=>([.d (.int .u64 x)]:List AV)) x) x=(fun x:(Nat)=>(fun (x:Nat)=>([.d (.int .u64 x)]:List AV)) x) y→x=y:=by
 intro x y h
 skip
 simpa only [List.cons.injEq,AV.d.injEq,AV.agg.injEq,AV.dp.injEq,AV.fn.injEq,AV.tup.injEq,AV.asl.injEq,Int.natCast_inj,D.int.injEq,D.str.injEq,D.bool.injEq,D.sl.injEq,Prod.mk.injEq,and_true,true_and,and_assoc] using h
@[go_sem] theorem zpw (x:Nat):(zfK).e [.d (.int .u64 x)]=some ((x<1001),.d (.int .i64 (bitL 20 x))):=Ent.of_app zkF (x)
theorem zqs (x:Nat) (h:x<1001):ACall Tryz.prog 142 0 [.d (.int .u64 x)] [] (fun r _=>r= .d (.int .i64 (bitL 20 x))):=by
 refine fbod Tryz.func142 Tryz.ntmps142 (fun base=>?_)
 refine' walkW fx (zb zfK <| za _)
noncomputable def zgz:Ent Tryz.prog 142:=Ent.of 142 (fun x:(Nat)=>(fun (x:Nat)=>([.d (.int .u64 x)]:List AV)) x) (fun x:(Nat)=>(fun (x:Nat)=>((x<1001):Prop)) x) (fun x:(Nat)=>(fun (x:Nat)=>(.d (.int .i64 (bitL 20 x)):AV)) x) (fun x hp=>⟨rfl,zqs x hp⟩)
theorem zn9:∀x y:(Nat),(fun x:(Nat)=>(fun (x:Nat)=>([.d (.int .u64 x)]:List AV)) x) x=(fun x:(Nat)=>(fun (x:Nat)=>([.d (.int .u64 x)]:List AV)) x) y→x=y:=by
 intro x y h
 skip
 simpa only [List.cons.injEq,AV.d.injEq,AV.agg.injEq,AV.dp.injEq,AV.fn.injEq,AV.tup.injEq,AV.asl.injEq,Int.natCast_inj,D.int.injEq,D.str.injEq,D.bool.injEq,D.sl.injEq,Prod.mk.injEq,and_true,true_and,and_assoc] using h
@[go_sem] theorem zqt (x:Nat):(zgz).e [.d (.int .u64 x)]=some ((x<1001),.d (.int .i64 (bitL 20 x))):=Ent.of_app zn9 (x)
theorem zpx:∀k:Nat,k≤10→ishl .u64 1 (k:Int)=((2 ^ k:Nat):Int):=by decide+kernel
theorem zpy (x:Nat) (h:x<1001):ACall Tryz.prog 276 0 [.d (.int .i64 x)] [] (fun r _=>r= .d (.int .u64 ((2 ^ bitL 20 x:Nat):Int))):=by
 have hw:IntKind.u64.wrap (x:Int)=x:=by rw [IntKind.wrap_u64];omega
 refine fbod Tryz.func276 Tryz.ntmps276 (fun base=>?_)
 refine' walkW hw (zb zgz <| za _)
 rw [zpx _ (zeg x h).2.2]
noncomputable def zhL:Ent Tryz.prog 276:=Ent.of 276 (fun x:(Nat)=>(fun (x:Nat)=>([.d (.int .i64 x)]:List AV)) x) (fun x:(Nat)=>(fun (x:Nat)=>((x<1001):Prop)) x) (fun x:(Nat)=>(fun (x:Nat)=>(.d (.int .u64 ((2 ^ bitL 20 x:Nat):Int)):AV)) x) (fun x hp=>⟨rfl,zpy x hp⟩)
theorem zmk:∀x y:(Nat),(fun x:(Nat)=>(fun (x:Nat)=>([.d (.int .i64 x)]:List AV)) x) x=(fun x:(Nat)=>(fun (x:Nat)=>([.d (.int .i64 x)]:List AV)) x) y→x=y:=by
 intro x y h
 skip
 simpa only [List.cons.injEq,AV.d.injEq,AV.agg.injEq,AV.dp.injEq,AV.fn.injEq,AV.tup.injEq,AV.asl.injEq,Int.natCast_inj,D.int.injEq,D.str.injEq,D.bool.injEq,D.sl.injEq,Prod.mk.injEq,and_true,true_and,and_assoc] using h
@[go_sem] theorem zpZ (x:Nat):(zhL).e [.d (.int .i64 x)]=some ((x<1001),.d (.int .u64 ((2 ^ bitL 20 x:Nat):Int))):=Ent.of_app zmk (x)
end Go.Aw
namespace Go.Proofs.YtgldbfelccddbaaGreat
open Go Go.RowKit
structure Grown (w w':World):Prop where
 os:w'.os=w.os
 tape:w'.tape=w.tape
 output:w'.output=w.output
 size:w.heap.size≤w'.heap.size
 keep:∀b,b<w.heap.size→w'.heap[b]?=w.heap[b]?
theorem Grown.set {w W:World} (h:Grown w W) {a:Addr} (ha:w.heap.size≤a.block) (v:Value):Grown w (W.setCell a v):=by
 refine ⟨h.os,h.tape,h.output,?_,fun b hb=>?_⟩
 ·simp only [World.setCell,Array.size_modify]
  exact h.size
 ·refine Eq.trans ?_ (h.keep b hb)
  simp only [World.setCell,Array.getElem?_modify]
  rw [if_neg (by omega)]
theorem Grown.drew {w W:World} (h:Grown w W):Grown w W.drew:=⟨h.os,h.tape,h.output,h.size,h.keep⟩
theorem zoW {X:World} {p0 p1 p2:Addr} {a0 a1 a2:Value} (v0 v1 v2:Value) (h0:X.cell? p0=some a0) (h1:X.cell? p1=some a1) (h2:X.cell? p2=some a2) (h01:p0≠p1) (h02:p0≠p2) (h12:p1≠p2):
  (((X.setCell p0 v0).setCell p1 v1).setCell p2 v2).cell? p0=some v0∧(((X.setCell p0 v0).setCell p1 v1).setCell p2 v2).cell? p1=some v1∧(((X.setCell p0 v0).setCell p1 v1).setCell p2 v2).cell? p2=some v2:=by
 have g0:=World.cell?_setCell_same X p0 v0 h0
 have g1:=World.cell?_setCell_same (X.setCell p0 v0) p1 v1 ((World.cell?_setCell_other X p0 p1 v0 h01).trans h1)
 refine ⟨?_,?_,World.cell?_setCell_same _ p2 v2 ((World.cell?_setCell_other _ p1 p2 v1 h12).trans ((World.cell?_setCell_other X p0 p2 v0 h02).trans h2))⟩
 ·exact (World.cell?_setCell_other _ p2 p0 v2 h02.symm).trans ((World.cell?_setCell_other _ p1 p0 v1 h01.symm).trans g0)
 ·exact (World.cell?_setCell_other _ p2 p1 v2 h12.symm).trans g1
theorem ziU (p0 p1 p2:Addr) (w:World):
  CallsD Tryz.prog 428 #[.pointer (some p0),.pointer (some p1),.pointer (some p2)] .returning w fun e u' w'=>e= .returned (.tuple #[])∧u'= .returning∧w'=w:=by
 refine callsD_of_wpS Tryz.func428 rfl fun c₀ cs hu=>?_
 apply wpS_seq
 apply wpS_region
 simp [wpOpsS,go_sem,recoverD,hu,Tryz.ntmps428,Exit.thenS]
 refine wpS_of_wp ?_
 go_wp2
 cases c₀
 simp_all [bodyPostS,results,Tryz.results428]
theorem zmN (x:Int) (W:World):(Instr.typeAssert (.iface 416 (.int .i64 x)) 20 416 true).run Tryz.prog W= .ok (.tuple #[.int .i64 x,.bool true]) W:=by kernel_rfl
theorem zkO (p0 p1 p2:Addr) (x:Int) (s0 s1:ByteArray) (e0:Int) (w:World) (h0:w.cell? p0=some (.string s0)) (h1:w.cell? p1=some (.string s1)) (h2:w.cell? p2=some (.int .i64 e0)) (f0:w.frozen? p0=false) (f1:w.frozen? p1=false) (f2:w.frozen? p2=false) (h01:p1≠p0) (h02:p2≠p0) (h12:p2≠p1):
  CallsD Tryz.prog 428 #[.pointer (some p0),.pointer (some p1),.pointer (some p2)] (.panicking [{ v:= .iface 416 (.int .i64 x),recovered:=false }]) w fun e u' w'=>e= .returned (.tuple #[])∧u'= .panicking [{ v:= .iface 416 (.int .i64 x),recovered:=true }]∧w'=((w.setCell p0 (.string ⟨#[]⟩)).setCell p1 (.string ⟨#[]⟩)).setCell p2 (.int .i64 x):=by
 have hta:=zmN x
 have hnot:∀ (x:Bool) (w:World),(Op.unary .not (.bool x)).run Tryz.prog w= .ok (.bool (!x)) w:=fun _ _=>rfl
 have g1:∀v,(w.setCell p0 v).cell? p1=some (.string s1):=fun v=>(World.cell?_setCell_other _ p0 p1 _ h01.symm).trans h1
 have g2:∀v u,((w.setCell p0 v).setCell p1 u).cell? p2=some (.int .i64 e0):=fun v u=>(World.cell?_setCell_other _ p1 p2 _ h12.symm).trans ((World.cell?_setCell_other _ p0 p2 _ h02.symm).trans h2)
 refine callsD_of_wpS Tryz.func428 rfl fun c₀ cs hu=>?_
 apply wpS_seq
 apply wpS_region
 simp [wpOpsS,go_sem,recoverD,hu,Tryz.ntmps428,Exit.thenS]
 apply wpS_seq
 apply wpS_region
 simp [wpOpsS,go_sem,Exit.thenS]
 refine wpS_cond (t:=true) (by simp [Act.eval,Array.replicate]) ?_
 simp only [if_true]
 apply wpS_seq
 apply wpS_region
 simp [wpOpsS,go_sem,Exit.thenS,hta]
 apply wpS_seq
 apply wpS_seq
 apply wpS_region
 simp [wpOpsS,go_sem,Exit.thenS,hnot]
 refine wpS_cond (t:=false) (by simp [Act.eval,Array.replicate]) ?_
 simp only [Bool.false_eq_true,if_false]
 refine wpS_of_wp (wp_skip ?_)
 simp only [Exit.thenS]
 apply wpS_seq
 apply wpS_region
 simp [wpOpsS,go_sem,Exit.thenS]
 apply wpS_region
 simp [wpOpsS,go_sem,Exit.thenS,h0,f0,f1,f2,g1,g2,bodyPostS,results,Tryz.results428]
structure Read3 (w W:World) (z0 z1 z2:Value):Prop where
 g:Grown w W
 c0:W.cell? ⟨w.heap.size,0,none⟩=some z0
 c1:W.cell? ⟨w.heap.size+1,0,none⟩=some z1
 c2:W.cell? ⟨w.heap.size+1+1,0,none⟩=some z2
 f0:W.frozen? ⟨w.heap.size,0,none⟩=false
 f1:W.frozen? ⟨w.heap.size+1,0,none⟩=false
 f2:W.frozen? ⟨w.heap.size+1+1,0,none⟩=false
theorem zmO (s t s':ByteArray) (w:World)
  (hby:Calls Tryz.prog 391 #[.pointer (some ⟨w.heap.size+1+1+1,0,none⟩)] ((((w.alloc (.cells #[.string ⟨#[]⟩] 9)).alloc (.cells #[.string ⟨#[]⟩] 9)).alloc (.cells #[.int .i64 0] 77)).alloc (.cells #[.string s] 419)) fun e W=>e= .returned (.string t)∧Read3 w W (.string ⟨#[]⟩) (.string ⟨#[]⟩) (.int .i64 0)∧W.cell? ⟨w.heap.size+1+1+1,0,none⟩=some (.string s')):
  Calls Tryz.prog 390 #[.string s,.func (.func 391) #[] #[]] w fun e w'=>e= .returned (.tuple #[.string t,.string s',.int .i64 0])∧Grown w w':=by
 have hmf:∀ (fn:Fn) (first cap:Array Value) (w:World),(Instr.makeFunc fn first cap).run Tryz.prog w= .ok (.func fn first cap) w:=fun _ _ _ _=>rfl
 go_enter_defers Tryz.func390,Tryz.ntmps390
 go_wp2_with (go_at_call 391;refine hby.mono ?_;rintro e W ⟨rfl,hR,hr⟩;have a0:=hR.c0;have a1:=hR.c1;have a2:=hR.c2;have f0:=hR.f0;have f1:=hR.f1;have f2:=hR.f2)
 have b0:(W.setCell ⟨w.heap.size,0,none⟩ (.string t)).cell? ⟨w.heap.size,0,none⟩=some (.string t):=World.cell?_setCell_same W _ _ a0
 have b1:(W.setCell ⟨w.heap.size,0,none⟩ (.string t)).cell? ⟨w.heap.size+1,0,none⟩=some (.string ⟨#[]⟩):=(World.cell?_setCell_other _ _ _ _ (by simp)).trans a1
 have b2:(W.setCell ⟨w.heap.size,0,none⟩ (.string t)).cell? ⟨w.heap.size+1+1,0,none⟩=some (.int .i64 0):=(World.cell?_setCell_other _ _ _ _ (by simp)).trans a2
 have b3:(W.setCell ⟨w.heap.size,0,none⟩ (.string t)).cell? ⟨w.heap.size+1+1+1,0,none⟩=some (.string s'):=(World.cell?_setCell_other _ _ _ _ (by simp)).trans hr
 have d0:(W.setCell ⟨w.heap.size,0,none⟩ (.string t)).frozen? ⟨w.heap.size,0,none⟩=false:=by simp [f0]
 have d1:(W.setCell ⟨w.heap.size,0,none⟩ (.string t)).frozen? ⟨w.heap.size+1,0,none⟩=false:=by simp [f1]
 have d2:(W.setCell ⟨w.heap.size,0,none⟩ (.string t)).frozen? ⟨w.heap.size+1+1,0,none⟩=false:=by simp [f2]
 obtain ⟨X,hX⟩:∃X,X=W.setCell ⟨w.heap.size,0,none⟩ (.string t):=⟨_,rfl⟩
 have hgX:Grown w X:=by rw [hX];exact hR.g.set (Nat.le_refl _) _
 rw [← hX] at b0 b1 b2 b3 d0 d1 d2
 rw [← hX]
 clear a0 a1 a2 f0 f1 f2 hX
 go_region
 all_goals go_wp2
 all_goals
  refine leaves_cons (f:=428) (args:= #[.pointer (some ⟨w.heap.size,0,none⟩),.pointer (some ⟨w.heap.size+1,0,none⟩),.pointer (some ⟨w.heap.size+1+1,0,none⟩)]) (by simp) (by simp [go_sem]) ?_
  refine (ziU _ _ _ _).mono ?_
  rintro e u' w'' ⟨rfl,rfl,rfl⟩
  obtain ⟨Y,hY⟩:∃Y,Y=(((X.setCell ⟨w.heap.size,0,none⟩ (.string t)).setCell ⟨w.heap.size+1,0,none⟩ (.string s')).setCell ⟨w.heap.size+1+1,0,none⟩ (.int .i64 0)).drew:=⟨_,rfl⟩
  have hg:Grown w Y:=by rw [hY];exact (((hgX.set (Nat.le_refl _) _).set (Nat.le_succ _) _).set (Nat.le_succ_of_le (Nat.le_succ _)) _).drew
  obtain ⟨e0,e1,e2⟩:Y.cell? ⟨w.heap.size,0,none⟩=some (.string t)∧Y.cell? ⟨w.heap.size+1,0,none⟩=some (.string s')∧Y.cell? ⟨w.heap.size+1+1,0,none⟩=some (.int .i64 0):=by
   rw [hY]
   exact zoW _ _ _ b0 b1 b2 (by simp) (by simp) (by simp)
  rw [← hY]
  simp [Leaves,settle,results,Tryz.results390,go_sem,e0,e1,e2,hg]
theorem zmP (s:ByteArray) (x:Int) (w:World)
  (hby:Calls Tryz.prog 391 #[.pointer (some ⟨w.heap.size+1+1+1,0,none⟩)] ((((w.alloc (.cells #[.string ⟨#[]⟩] 9)).alloc (.cells #[.string ⟨#[]⟩] 9)).alloc (.cells #[.int .i64 0] 77)).alloc (.cells #[.string s] 419)) fun e W=>e= .panicked [{ v:= .iface 416 (.int .i64 x),recovered:=false }]∧Read3 w W (.string ⟨#[]⟩) (.string ⟨#[]⟩) (.int .i64 0)):
  Calls Tryz.prog 390 #[.string s,.func (.func 391) #[] #[]] w fun e w'=>e= .returned (.tuple #[.string ⟨#[]⟩,.string ⟨#[]⟩,.int .i64 x])∧Grown w w':=by
 have hmf:∀ (fn:Fn) (first cap:Array Value) (w:World),(Instr.makeFunc fn first cap).run Tryz.prog w= .ok (.func fn first cap) w:=fun _ _ _ _=>rfl
 go_enter_defers Tryz.func390,Tryz.ntmps390
 go_wp2_with (go_at_call 391;refine hby.mono ?_;rintro e W ⟨rfl,hR⟩)
 refine leaves_cons (f:=428) (args:= #[.pointer (some ⟨w.heap.size,0,none⟩),.pointer (some ⟨w.heap.size+1,0,none⟩),.pointer (some ⟨w.heap.size+1+1,0,none⟩)]) (by simp) (by simp [go_sem]) ?_
 refine (zkO _ _ _ x _ _ _ _ hR.c0 hR.c1 hR.c2 hR.f0 hR.f1 hR.f2 (by simp) (by simp) (by simp)).mono ?_
 rintro e u' w'' ⟨rfl,rfl,rfl⟩
 obtain ⟨Y,hY⟩:∃Y,Y=((W.setCell ⟨w.heap.size,0,none⟩ (.string ⟨#[]⟩)).setCell ⟨w.heap.size+1,0,none⟩ (.string ⟨#[]⟩)).setCell ⟨w.heap.size+1+1,0,none⟩ (.int .i64 x):=⟨_,rfl⟩
 have hg:Grown w Y:=by rw [hY];exact ((hR.g.set (Nat.le_refl _) _).set (Nat.le_succ _) _).set (Nat.le_succ_of_le (Nat.le_succ _)) _
 obtain ⟨e0,e1,e2⟩:Y.cell? ⟨w.heap.size,0,none⟩=some (.string ⟨#[]⟩)∧Y.cell? ⟨w.heap.size+1,0,none⟩=some (.string ⟨#[]⟩)∧Y.cell? ⟨w.heap.size+1+1,0,none⟩=some (.int .i64 x):=by
  rw [hY]
  exact zoW _ _ _ hR.c0 hR.c1 hR.c2 (by simp) (by simp) (by simp)
 rw [← hY]
 simp [Leaves,settle,results,Tryz.results390,go_sem,e0,e1,e2,hg]
end Go.Proofs.YtgldbfelccddbaaGreat
namespace Go.Proofs.YtgldbfelccddbaaGreat
open Go Go.RowKit
theorem ziV (p0 p1 p2:Addr) (w:World):
  CallsD Tryz.prog 292 #[.pointer (some p0),.pointer (some p1),.pointer (some p2)] .returning w fun e u' w'=>e= .returned (.tuple #[])∧u'= .returning∧w'=w:=by
 refine callsD_of_wpS Tryz.func292 rfl fun c₀ cs hu=>?_
 apply wpS_seq
 apply wpS_region
 simp [wpOpsS,go_sem,recoverD,hu,Tryz.ntmps292,Exit.thenS]
 refine wpS_of_wp ?_
 go_wp2
 cases c₀
 simp_all [bodyPostS,results,Tryz.results292]
structure Cells4 (w:World) (b:Nat) (v0 v1 v2 v3:Value):Prop where
 c0:w.cell? ⟨b,0,none⟩=some v0
 c1:w.cell? ⟨b,1,none⟩=some v1
 c2:w.cell? ⟨b+1,0,none⟩=some v2
 c3:w.cell? ⟨b+1+1,0,none⟩=some v3
 f0:w.frozen? ⟨b,0,none⟩=false
 f1:w.frozen? ⟨b,1,none⟩=false
 f2:w.frozen? ⟨b+1,0,none⟩=false
 f3:w.frozen? ⟨b+1+1,0,none⟩=false
def set4 (w:World) (b:Nat) (v0 v1 v2 v3:Value):World:=(((w.setCell ⟨b,0,none⟩ v0).setCell ⟨b,1,none⟩ v1).setCell ⟨b+1,0,none⟩ v2).setCell ⟨b+1+1,0,none⟩ v3
theorem Cells4.s1 {w:World} {b:Nat} {v0 v1 v2 v3:Value} (h:Cells4 w b v0 v1 v2 v3) (u0:Value):(w.setCell ⟨b,0,none⟩ u0).cell? ⟨b,1,none⟩=some v1:=(World.cell?_setCell_other _ _ _ _ (by simp)).trans h.c1
theorem Cells4.s2 {w:World} {b:Nat} {v0 v1 v2 v3:Value} (h:Cells4 w b v0 v1 v2 v3) (u0 u1:Value):((w.setCell ⟨b,0,none⟩ u0).setCell ⟨b,1,none⟩ u1).cell? ⟨b+1,0,none⟩=some v2:=(World.cell?_setCell_other _ _ _ _ (by simp)).trans ((World.cell?_setCell_other _ _ _ _ (by simp)).trans h.c2)
theorem Cells4.s3 {w:World} {b:Nat} {v0 v1 v2 v3:Value} (h:Cells4 w b v0 v1 v2 v3) (u0 u1 u2:Value):(((w.setCell ⟨b,0,none⟩ u0).setCell ⟨b,1,none⟩ u1).setCell ⟨b+1,0,none⟩ u2).cell? ⟨b+1+1,0,none⟩=some v3:=(World.cell?_setCell_other _ _ _ _ (by simp)).trans ((World.cell?_setCell_other _ _ _ _ (by simp)).trans ((World.cell?_setCell_other _ _ _ _ (by simp)).trans h.c3))
theorem Cells4.set {w:World} {b:Nat} {v0 v1 v2 v3:Value} (h:Cells4 w b v0 v1 v2 v3) (u0 u1 u2 u3:Value):Cells4 (set4 w b u0 u1 u2 u3) b u0 u1 u2 u3:=by
 have g0:=World.cell?_setCell_same w _ u0 h.c0
 have g1:=World.cell?_setCell_same _ _ u1 (h.s1 u0)
 have g2:=World.cell?_setCell_same _ _ u2 (h.s2 u0 u1)
 have g3:=World.cell?_setCell_same _ _ u3 (h.s3 u0 u1 u2)
 refine ⟨?_,?_,?_,g3,by simp [set4,h.f0],by simp [set4,h.f1],by simp [set4,h.f2],by simp [set4,h.f3]⟩
 ·exact (World.cell?_setCell_other _ _ _ _ (by simp)).trans ((World.cell?_setCell_other _ _ _ _ (by simp)).trans ((World.cell?_setCell_other _ _ _ _ (by simp)).trans g0))
 ·exact (World.cell?_setCell_other _ _ _ _ (by simp)).trans ((World.cell?_setCell_other _ _ _ _ (by simp)).trans g1)
 ·exact (World.cell?_setCell_other _ _ _ _ (by simp)).trans g2
theorem Cells4.alloc {w:World} {b:Nat} {v0 v1 v2 v3:Value} (h:Cells4 w b v0 v1 v2 v3) (hb:b+1+1<w.heap.size) (c:Array Value) (t:TypeId):Cells4 (w.alloc (.cells c t)) b v0 v1 v2 v3:=
 ⟨(World.cell?_alloc_past _ _ _ (by omega)).trans h.c0,(World.cell?_alloc_past _ _ _ (by omega)).trans h.c1,(World.cell?_alloc_past _ _ _ (by omega)).trans h.c2,(World.cell?_alloc_past _ _ _ (by omega)).trans h.c3,(frozen?_alloc_cells _ _ _ _).trans h.f0,(frozen?_alloc_cells _ _ _ _).trans h.f1,(frozen?_alloc_cells _ _ _ _).trans h.f2,(frozen?_alloc_cells _ _ _ _).trans h.f3⟩
theorem Cells4.two {w:World} {b:Nat} {v0 v1 v2 v3:Value} (h:Cells4 w b v0 v1 v2 v3) (u0 u1:Value):Cells4 ((w.setCell ⟨b,0,none⟩ u0).setCell ⟨b,1,none⟩ u1) b u0 u1 v2 v3:=
 ⟨(World.cell?_setCell_other _ _ _ _ (by simp)).trans (World.cell?_setCell_same w _ u0 h.c0),World.cell?_setCell_same _ _ u1 (h.s1 u0),h.s2 u0 u1,(World.cell?_setCell_other _ _ _ _ (by simp)).trans ((World.cell?_setCell_other _ _ _ _ (by simp)).trans h.c3),by simp [h.f0],by simp [h.f1],by simp [h.f2],by simp [h.f3]⟩
theorem Grown.alloc {w W:World} (h:Grown w W) (o:Obj):Grown w (W.alloc o):=⟨h.os,h.tape,h.output,by rw [World.size_alloc];exact Nat.le_succ_of_le h.size,fun b hb=>by
 refine Eq.trans ?_ (h.keep b hb)
 have:=h.size
 simp only [World.alloc,Array.getElem?_push]
 rw [if_neg (by omega)]⟩
theorem zkP (b:Nat) (x:Int) (v0 v1 v2 v3:Value) (w:World) (h:Cells4 w b v0 v1 v2 v3) (hb:b+1+1<w.heap.size):
  CallsD Tryz.prog 292 #[.pointer (some ⟨b,0,none⟩),.pointer (some ⟨b+1,0,none⟩),.pointer (some ⟨b+1+1,0,none⟩)] (.panicking [{ v:= .iface 416 (.int .i64 x),recovered:=false }]) w fun e u' w'=>e= .returned (.tuple #[])∧u'= .panicking [{ v:= .iface 416 (.int .i64 x),recovered:=true }]∧w'=set4 (w.alloc (.cells #[.int .u32 0,.string ⟨#[]⟩] 177)) b (.int .u32 0) (.string ⟨#[]⟩) (.string ⟨#[]⟩) (.int .i64 x):=by
 have hta:=zmN x
 have hnot:∀ (x:Bool) (w:World),(Op.unary .not (.bool x)).run Tryz.prog w= .ok (.bool (!x)) w:=fun _ _=>rfl
 refine callsD_of_wpS Tryz.func292 rfl fun c₀ cs hu=>?_
 apply wpS_seq
 apply wpS_region
 simp [wpOpsS,go_sem,recoverD,hu,Tryz.ntmps292,Exit.thenS]
 apply wpS_seq
 apply wpS_region
 simp [wpOpsS,go_sem,Exit.thenS]
 refine wpS_cond (t:=true) (by simp [Act.eval,Array.replicate]) ?_
 simp only [if_true]
 apply wpS_seq
 apply wpS_region
 simp [wpOpsS,go_sem,Exit.thenS,hta]
 apply wpS_seq
 apply wpS_seq
 apply wpS_region
 simp [wpOpsS,go_sem,Exit.thenS,hnot]
 refine wpS_cond (t:=false) (by simp [Act.eval,Array.replicate]) ?_
 simp only [Bool.false_eq_true,if_false]
 refine wpS_of_wp (wp_skip ?_)
 simp only [Exit.thenS]
 have h4:=h.alloc hb #[.int .u32 0,.string ⟨#[]⟩] 177
 have q0:=h4.c0
 have q1:=h4.s1
 have q2:=h4.s2
 have q3:=h4.s3
 have f0:=h4.f0
 have f1:=h4.f1
 have f2:=h4.f2
 have f3:=h4.f3
 refine wpS_of_wp ?_
 go_wp2
 cases c₀
 simp_all [bodyPostS,results,Tryz.results292,set4]
abbrev rdW4 (w:World) (s:ByteArray):World:=(((w.alloc (.cells #[.int .u32 0,.string ⟨#[]⟩] 177)).alloc (.cells #[.string ⟨#[]⟩] 9)).alloc (.cells #[.int .i64 0] 77)).alloc (.cells #[.string s] 419)
theorem zmQ (k:Int) (s d s':ByteArray) (w:World)
  (hby:Calls Tryz.prog 234 #[.pointer (some ⟨w.heap.size+1+1+1,0,none⟩)] (rdW4 w s) fun e W=>e= .returned (.agg #[.int .u32 k,.string d])∧Grown w W∧Cells4 W w.heap.size (.int .u32 0) (.string ⟨#[]⟩) (.string ⟨#[]⟩) (.int .i64 0)∧W.cell? ⟨w.heap.size+1+1+1,0,none⟩=some (.string s')):
  Calls Tryz.prog 233 #[.string s,.func (.func 234) #[] #[]] w fun e w'=>e= .returned (.tuple #[.agg #[.int .u32 k,.string d],.string s',.int .i64 0])∧Grown w w':=by
 have hmf:∀ (fn:Fn) (first cap:Array Value) (w:World),(Instr.makeFunc fn first cap).run Tryz.prog w= .ok (.func fn first cap) w:=fun _ _ _ _=>rfl
 go_enter_defers Tryz.func233,Tryz.ntmps233
 go_wp2_with (go_at_call 234;refine hby.mono ?_;rintro e W ⟨rfl,hG,hR,hr⟩;have a0:=hR.c0;have a1:=hR.s1;have f0:=hR.f0;have f1:=hR.f1)
 obtain ⟨X,hX⟩:∃X,X=(W.setCell ⟨w.heap.size,0,none⟩ (.int .u32 k)).setCell ⟨w.heap.size,1,none⟩ (.string d):=⟨_,rfl⟩
 have hgX:Grown w X:=by rw [hX];exact (hG.set (Nat.le_refl _) _).set (Nat.le_refl _) _
 have hC:Cells4 X w.heap.size (.int .u32 k) (.string d) (.string ⟨#[]⟩) (.int .i64 0):=by rw [hX];exact hR.two _ _
 have b3:X.cell? ⟨w.heap.size+1+1+1,0,none⟩=some (.string s'):=by rw [hX];exact (World.cell?_setCell_other _ _ _ _ (by simp)).trans ((World.cell?_setCell_other _ _ _ _ (by simp)).trans hr)
 rw [← hX]
 clear a0 a1 f0 f1 hX hR
 have c0:=hC.c0
 have c1:=hC.c1
 have q1:=hC.s1
 have q2:=hC.s2
 have q3:=hC.s3
 have f0:=hC.f0
 have f1:=hC.f1
 have f2:=hC.f2
 have f3:=hC.f3
 go_region
 all_goals go_wp2
 all_goals
  refine leaves_cons (f:=292) (args:= #[.pointer (some ⟨w.heap.size,0,none⟩),.pointer (some ⟨w.heap.size+1,0,none⟩),.pointer (some ⟨w.heap.size+1+1,0,none⟩)]) (by simp) (by simp [go_sem]) ?_
  refine (ziV _ _ _ _).mono ?_
  rintro e u' w'' ⟨rfl,rfl,rfl⟩
  obtain ⟨Y,hY⟩:∃Y,Y=(set4 X w.heap.size (.int .u32 k) (.string d) (.string s') (.int .i64 0)).drew:=⟨_,rfl⟩
  have hg:Grown w Y:=by rw [hY];exact ((((hgX.set (Nat.le_refl _) _).set (Nat.le_refl _) _).set (Nat.le_succ _) _).set (Nat.le_succ_of_le (Nat.le_succ _)) _).drew
  have hD:=hC.set (.int .u32 k) (.string d) (.string s') (.int .i64 0)
  have e0:Y.cell? ⟨w.heap.size,0,none⟩=some (.int .u32 k):=by rw [hY];exact hD.c0
  have e1:Y.cell? ⟨w.heap.size,1,none⟩=some (.string d):=by rw [hY];exact hD.c1
  have e2:Y.cell? ⟨w.heap.size+1,0,none⟩=some (.string s'):=by rw [hY];exact hD.c2
  have e3:Y.cell? ⟨w.heap.size+1+1,0,none⟩=some (.int .i64 0):=by rw [hY];exact hD.c3
  unfold set4 at hY
  rw [← hY]
  simp [Leaves,settle,results,Tryz.results233,go_sem,e0,e1,e2,e3,hg]
theorem zmR (s:ByteArray) (x:Int) (w:World)
  (hby:Calls Tryz.prog 234 #[.pointer (some ⟨w.heap.size+1+1+1,0,none⟩)] (rdW4 w s) fun e W=>e= .panicked [{ v:= .iface 416 (.int .i64 x),recovered:=false }]∧Grown w W∧w.heap.size+1+1<W.heap.size∧Cells4 W w.heap.size (.int .u32 0) (.string ⟨#[]⟩) (.string ⟨#[]⟩) (.int .i64 0)):
  Calls Tryz.prog 233 #[.string s,.func (.func 234) #[] #[]] w fun e w'=>e= .returned (.tuple #[.agg #[.int .u32 0,.string ⟨#[]⟩],.string ⟨#[]⟩,.int .i64 x])∧Grown w w':=by
 have hmf:∀ (fn:Fn) (first cap:Array Value) (w:World),(Instr.makeFunc fn first cap).run Tryz.prog w= .ok (.func fn first cap) w:=fun _ _ _ _=>rfl
 go_enter_defers Tryz.func233,Tryz.ntmps233
 go_wp2_with (go_at_call 234;refine hby.mono ?_;rintro e W ⟨rfl,hG,hs,hR⟩)
 refine leaves_cons (f:=292) (args:= #[.pointer (some ⟨w.heap.size,0,none⟩),.pointer (some ⟨w.heap.size+1,0,none⟩),.pointer (some ⟨w.heap.size+1+1,0,none⟩)]) (by simp) (by simp [go_sem]) ?_
 refine (zkP _ x _ _ _ _ _ hR hs).mono ?_
 rintro e u' w'' ⟨rfl,rfl,rfl⟩
 obtain ⟨Y,hY⟩:∃Y,Y=set4 (W.alloc (.cells #[.int .u32 0,.string ⟨#[]⟩] 177)) w.heap.size (.int .u32 0) (.string ⟨#[]⟩) (.string ⟨#[]⟩) (.int .i64 x):=⟨_,rfl⟩
 have hg:Grown w Y:=by rw [hY];exact ((((hG.alloc _).set (Nat.le_refl _) _).set (Nat.le_refl _) _).set (Nat.le_succ _) _).set (Nat.le_succ_of_le (Nat.le_succ _)) _
 have hD:=(hR.alloc hs #[.int .u32 0,.string ⟨#[]⟩] 177).set (.int .u32 0) (.string ⟨#[]⟩) (.string ⟨#[]⟩) (.int .i64 x)
 rw [← hY] at hD
 rw [← hY]
 simp [Leaves,settle,results,Tryz.results233,go_sem,hD.c0,hD.c1,hD.c2,hD.c3,hg]
end Go.Proofs.YtgldbfelccddbaaGreat
