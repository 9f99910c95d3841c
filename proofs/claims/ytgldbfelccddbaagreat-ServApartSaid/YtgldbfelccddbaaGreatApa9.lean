/- Lemmas. -/
import Derived.Test.YtgldbfelccddbaaGreatApa7
set_option linter.all false
set_option maxRecDepth 100000
set_option maxHeartbeats 8000000
namespace Go.Proofs.YtgldbfelccddbaaGreat
open Go Go.RowKit
def zgH (W:World) (q:Option Addr):(Builtin.unsafeString_ #[282,3] 9 #[.pointer q,.int .i64 0]).run Tryz.prog W= .ok (.string .empty) W:=
 Lib.run_unsafeString_none W _ _ _ q
def zgI (w:World) (row:Option Nat):w.grownBy w.drew row:=⟨rfl,rfl,rfl,aj _,λ_ _ _=>rfl⟩
def zlj (w:World) (g n:Nat):w.grownBy (w.drew.freeze ⟨g,0,none⟩ n) (some g):=by
 unfold World.freeze;split
 .exact zgI w _
 .refine ⟨rfl,rfl,rfl,fZ,λk J b5=>?_⟩;simp only [dW];rw [U (λe=>b5 (by rw [e]))];rfl
def ztX (b o:Nat) (w:World) (h1:w.cell? ⟨b,o+1,none⟩=some (.slice none 0 0)):
  Calls Tryz.prog 98 #[.pointer (some ⟨b,o,none⟩)] w λe w'=>e= .returned (.string ⟨#[]⟩)/\w.grownBy w' none:=by
 have uZ:=zgH;have c1:w.drew.cell? ⟨b,o+1,none⟩=some (.slice none 0 0):=h1;have u0:(Builtin.unsafeSliceData_ #[60] 282 #[.slice none 0 0]).run Tryz.prog w.drew= .ok (.pointer none) w.drew:=rfl
 go_enter Tryz.func98,Tryz.ntmps98
 go_wp2
 go_region
 all_goals (go_wp2;go_ret;exact ⟨rfl,zgI w none⟩)
def zqt (b o g cap:Nat) (w:World) (J:cap≠0) (h1:w.cell? ⟨b,o+1,none⟩=some (.slice (some ⟨g,0,none⟩) 0 cap)):
  Calls Tryz.prog 98 #[.pointer (some ⟨b,o,none⟩)] w λe w'=>e= .returned (.string ⟨#[]⟩)/\w.grownBy w' (some g):=by
 have uZ:=zgH;have c1:w.drew.cell? ⟨b,o+1,none⟩=some (.slice (some ⟨g,0,none⟩) 0 cap):=h1
 have u0:(Builtin.unsafeSliceData_ #[60] 282 #[.slice (some ⟨g,0,none⟩) 0 cap]).run Tryz.prog w.drew= .ok (.pointer (some ⟨g,0,none⟩)) w.drew:=
  Lib.run_unsafeSliceData_row _ _ _ _ _ _ J
 clear J
 go_enter Tryz.func98,Tryz.ntmps98
 go_wp2
 go_region
 all_goals (go_wp2;go_ret;exact ⟨rfl,zgI w _⟩)
def zmG (b o g:Nat) (cur:Array Value) (w:World) (h1:w.cell? ⟨b,o+1,none⟩=some (.slice (some ⟨g,0,none⟩) 0 0)) (hg:w.heap[g]?=some (.cells cur 5 (0,0))):
  Calls Tryz.prog 98 #[.pointer (some ⟨b,o,none⟩)] w λe w'=>e= .returned (.string ⟨#[]⟩)/\w.grownBy w' (some g):=by
 have uZ:=zgH
 have J:b<w.heap.size:=by
  rcases aO b w.heap.size with h'|h'
  .exact h'
  .simp [World.cell?,Array.getElem?_eq_none h'] at h1
 have c1:w.drew.cell? ⟨b,o+1,none⟩=some (.slice (some ⟨g,0,none⟩) 0 0):=h1
 have u0:(Builtin.unsafeSliceData_ #[60] 282 #[.slice (some ⟨g,0,none⟩) 0 0]).run Tryz.prog w.drew= .ok (.pointer (some ⟨w.drew.heap.size,0,none⟩)) (w.drew.alloc (.view ⟨g,0,none⟩ 5)):=
  Lib.run_unsafeSliceData_zero w.drew _ _ 5 Tryz.underlying282 ⟨g,0,none⟩ 0 (5,cur.size) (by have nM:w.drew.heap[g]?=some (.cells cur 5 (0,0)):=hg;simp [World.shape?,nM])
 have c2:(w.drew.alloc (.view ⟨g,0,none⟩ 5)).cell? ⟨b,o+1,none⟩=some (.slice (some ⟨g,0,none⟩) 0 0):=by rw [<-c1];simp only [World.cell?];rw [Lib.alloc_old w.drew _ b J]
 have c3:(w.alloc (.view ⟨g,0,none⟩ 5)).drew.cell? ⟨b,o+1,none⟩=some (.slice (some ⟨g,0,none⟩) 0 0):=c2
 go_enter Tryz.func98,Tryz.ntmps98
 go_wp2
 go_region
 all_goals (go_wp2;go_ret;exact ⟨rfl,⟨rfl,rfl,rfl,fZ,λk hk _=>Lib.alloc_old w.drew _ k hk⟩⟩)
def zqu (b o g cap:Nat) (cur:Array Value) (l:List UInt8) (w:World) (h0:l≠ []) (h1:w.cell? ⟨b,o+1,none⟩=some (.slice (some ⟨g,0,none⟩) l.length cap))
  (ik:w.ownsRow 0 5 1 (.slice (some ⟨g,0,none⟩) l.length cap) l.length (Lib.byteCells l)):
  Calls Tryz.prog 98 #[.pointer (some ⟨b,o,none⟩)] w λe w'=>e= .returned (.string ⟨l.toArray⟩)/\w.grownBy w' (some g):=by
 have lW:l.length≠0:=oV
 obtain ⟨cur,J,vf,j5,lA,sL⟩:∃cur,w.heap[g]?=some (.cells cur 5 (0,0))/\l.length<=cap/\cap<=maxLen/\cur.size=cap*1/\cur.toList.take (l.length*1)=Lib.byteCells l:=by
  rcases ik.2 with ⟨_,hz⟩|⟨g',j7,cur,hv,r0,r⟩
  .exact absurd hz lW
  .cases hv;exact ⟨cur,r⟩
 have c1:w.drew.cell? ⟨b,o+1,none⟩=some (.slice (some ⟨g,0,none⟩) l.length cap):=h1
 have u0:(Builtin.unsafeSliceData_ #[60] 282 #[.slice (some ⟨g,0,none⟩) l.length cap]).run Tryz.prog w.drew= .ok (.pointer (some ⟨g,0,none⟩)) w.drew:=
  Lib.run_unsafeSliceData_row _ _ _ _ _ _ fT
 have uZ:(Builtin.unsafeString_ #[282,3] 9 #[.pointer (some ⟨g,0,none⟩),.int .i64 l.length]).run Tryz.prog w.drew= .ok (.string ⟨l.toArray⟩) (w.drew.freeze ⟨g,0,none⟩ l.length):=by refine Lib.run_unsafeString_row w.drew 282 3 9 5 Tryz.underlying282 fX g cur.size (by have nM:w.drew.heap[g]?=some (.cells cur 5 (0,0)):=J;simp [World.shape?,nM]) l h0 fT (by unfold maxLen at j5;omega) ?_;intro j x hx;have:=ik.cells (g:=g) rfl j (.int .u8 x.toNat) (by simp [Lib.byteCells,hx]);exact this
 clear h0 ik
 go_enter Tryz.func98,Tryz.ntmps98
 go_wp2
 go_region
 all_goals (go_wp2;go_ret;exact ⟨rfl,zlj w g _⟩)
def zop (b o:Nat) (w:World) (v:Value) (l:List UInt8) (h1:w.cell? ⟨b,o+1,none⟩=some v) (ik:w.ownsRow 0 5 1 v l.length (Lib.byteCells l)):
  Calls Tryz.prog 98 #[.pointer (some ⟨b,o,none⟩)] w λe w'=>e= .returned (.string ⟨l.toArray⟩)/\w.grownBy w' v.ownBlock:=by
 rcases ik.2 with ⟨rfl,hz⟩|⟨g,cap,cur,rfl,_,hg,vf,j5,lA,sL⟩
 .have:l= []:=du.1 hz;subst this;exact ztX b o w h1
 .by_cases J:l= []
  .subst J;by_cases hc:cap=0
   .subst hc;exact zmG b o g cur w h1 hg
   .exact zqt b o g cap w hc h1
  .exact zqu b o g cap cur l w J h1 ik
end Go.Proofs.YtgldbfelccddbaaGreat
namespace Go.Aw
open Go Go.Proofs
def zfl (g h:Int):Bool:=decide (1<=g)&&decide (g<=64)&&decide (8<=h)&&decide (h<=256)
def zjn (g h:Int):Int:=if zfl g h then 96+2*h else 0
def geo_iff {g h:Int} :zfl g h=true↔1<=g/\g<=64/\8<=h/\h<=256:=by
 simp [zfl,and_assoc]
def zCv (k:Int) (hp:0<=k/\k<=1000000):AC 271 [.d (.int .i64 k)] (.d (.int .i64 (96+2*k))):=by obtain ⟨h0,h1⟩:=hp;refine bod Tryz.func271 Tryz.ntmps271 (λbase=>?_);have hm:IntKind.i64.wrap (2*k)=2*k:=zf fT fT;have jg:IntKind.i64.wrap (96+2*k)=96+2*k:=zf fT fT;refine' zc (zg hm jg)
@[go_sem] noncomputable def zak:Ent Tryz.prog 271:= .m1 (intT .i64) zCv
def at_ok (k:Int) (hp:0<=k/\k<=1000000):AC 360 [.d (.int .i64 k)] (.d (.int .i64 (96+2*k))):=by obtain ⟨h0,h1⟩:=hp;refine bod Tryz.func360 Tryz.ntmps360 (λbase=>?_);have hm:IntKind.i64.wrap (2*k)=2*k:=zf fT fT;have jg:IntKind.i64.wrap (96+2*k)=96+2*k:=zf fT fT;refine' zc (zg hm jg)
@[go_sem] noncomputable def zde:Ent Tryz.prog 360:= .m1 (intT .i64) at_ok
def zzI (k:Int) (hp:0<=k/\k<=1000000):AC 162 [.d (.int .i64 k)] (.tup [.d (.int .i64 (87+k / 32)),.d (.int .i64 (2*(k % 32)))]):=by
 obtain ⟨h0,h1⟩:=hp;refine bod Tryz.func162 Tryz.ntmps162 (λbase=>?_);have hm:IntKind.i64.wrap (k.tdiv 32)=k / 32:=by rw [ct h0,zf fT fT]
 have jg:IntKind.i64.wrap (87+k / 32)=87+k / 32:=zf fT fT;have kk:k.tmod 32=k % 32:=bX h0;have u1:IntKind.i64.wrap (2*(k % 32))=2*(k % 32):=zf fT fT;refine' zc (zB hm jg kk u1)
@[go_sem] noncomputable def zeI:Ent Tryz.prog 162:= .m1 (intT .i64) zzI
def zCw {k:Int} (h0:0<=k):ishr .i64 k 5=k / 32:=by unfold ishr;rw [show min ((5:Int).toNat) IntKind.i64.bits=5 from rfl,eP _ gb];rfl
def zCx {k:Int} (h0:0<=k) (h1:k<=1000000):ibits .and .i64 k 31=k % 32:=by
 obtain ⟨m,rfl⟩:∃m:Nat,k=m:=⟨k.toNat,fT⟩
 show IntKind.i64.wrap ((BitVec.ofInt 64 (m:Int)&&& BitVec.ofInt 64 31).toNat:Int)=_;rw [cL,show BitVec.ofInt 64 31=BitVec.ofNat 64 31 from rfl,dx,bR,bR,bC fT,bC fT,show (31:Nat)=2 ^ 5 - 1 from rfl,dX,zf fT fT];omega
def zDX (k:Int) (hp:0<=k/\k<=1000000):AC 404 [.d (.int .i64 k)] (.tup [.d (.int .i64 (87+k / 32)),.d (.int .i64 (2*(k % 32)))]):=by obtain ⟨h0,h1⟩:=hp;refine bod Tryz.func404 Tryz.ntmps404 (λbase=>?_);have hm:=zCw h0;have jg:IntKind.i64.wrap (87+k / 32)=87+k / 32:=zf fT fT;have kk:=zCx h0 h1;have u1:IntKind.i64.wrap (k % 32*2)=2*(k % 32):=gP;refine' zc (zB hm jg kk u1)
@[go_sem] noncomputable def zhg:Ent Tryz.prog 404:= .m1 (intT .i64) zDX
def zwN:ACall Tryz.prog 345 0 [] [] (λr _=>r= .tup [.d (.int .i64 6),.d (.int .i64 81)]):=by refine bod Tryz.func345 Tryz.ntmps345 (λbase=>?_);refine' zc fx
@[go_sem] noncomputable def zqL:Ent Tryz.prog 345:= .ofL nilL (λ_=>True) (λ_=> .tup [.d (.int .i64 6),.d (.int .i64 81)]) (λ_ hp=>⟨rfl,zwN⟩)
def zzJ (g:Int) (m:Int):ACall Tryz.prog 80 0 [.agg [.d (.int .i64 g),.d (.int .i64 m)]] [] (λr _=>r= .d (.bool (zfl g m))):=by refine bod Tryz.func80 Tryz.ntmps80 (λbase=>?_);refine' zc fx;rfl
@[go_sem] noncomputable def zdR:Ent Tryz.prog 80:= .ofL (consL (aggT (consL (intT .i64) (consL (intT .i64) nilL)) (λp=>p) (λp=>p) (λ_=>rfl)) nilL) (λ((g,m,_),_)=>True) (λ((g,m,_),_)=> .d (.bool (zfl g m))) (λ((g,m,_),_) hp=>⟨rfl,zzJ g m⟩)
def zzK (g:Int) (m:Int):ACall Tryz.prog 83 0 [.agg [.d (.int .i64 g),.d (.int .i64 m)]] [] (λr _=>r= .d (.int .i64 (zjn g m))):=by
 refine bod Tryz.func83 Tryz.ntmps83 (λbase=>?_);refine' walkW fx (za zdR <| zb _)
 .have hc:zfl g m=false:=by simpa using hc
  rw [zjn,U (by rw [hc];exact bS)]
 .have hc:zfl g m=true:=by simpa using hc
  have J:=geo_iff.1 hc;rw [zjn,aa hc,zf (n:=2*m) fT fT,zf fT fT]
@[go_sem] noncomputable def zfJ:Ent Tryz.prog 83:= .ofL (consL (aggT (consL (intT .i64) (consL (intT .i64) nilL)) (λp=>p) (λp=>p) (λ_=>rfl)) nilL) (λ((g,m,_),_)=>True) (λ((g,m,_),_)=> .d (.int .i64 (zjn g m))) (λ((g,m,_),_) hp=>⟨rfl,zzK g m⟩)
end Go.Aw
namespace Go.Proofs.YtgldbfelccddbaaGreat
open Go Go.RowKit
structure Grown (w w':World):Prop where
 os:w'.os=w.os
 tape:w'.tape=w.tape
 output:w'.output=w.output
 size:w.heap.size<=w'.heap.size
 keep:∀b,b<w.heap.size->w'.heap[b]?=w.heap[b]?
def Grown.set {w W:World} (h:Grown w W) {a:Addr} (ha:w.heap.size<=a.block) (v:Value):Grown w (W.setCell a v):=by
 refine ⟨h.os,h.tape,h.output,?_,λb J=>?_⟩
 .simp only [World.setCell,Array.size_modify];exact h.size
 .refine Eq.trans ?_ (h.keep b J);simp only [World.setCell,dW];rw [U fT]
def Grown.drew {w W:World} (h:Grown w W):Grown w W.drew:=⟨h.os,h.tape,h.output,h.size,h.keep⟩
def zBW {X:World} {p0 J p2:Addr} {a0 a1 a2:Value} (v0 v1 v2:Value) (h0:X.cell? p0=some a0) (h1:X.cell? J=some a1) (h2:X.cell? p2=some a2) (sB:p0≠J) (sC:p0≠p2) (qI:J≠p2):
  (((X.setCell p0 v0).setCell J v1).setCell p2 v2).cell? p0=some v0/\(((X.setCell p0 v0).setCell J v1).setCell p2 v2).cell? J=some v1/\(((X.setCell p0 v0).setCell J v1).setCell p2 v2).cell? p2=some v2:=by
 have g0:=cn X p0 v0 h0;have g1:=cn (X.setCell p0 v0) J v1 ((aR X p0 J v0 sB).trans h1);refine ⟨?_,?_,cn _ p2 v2 ((aR _ J p2 v1 qI).trans ((aR X p0 p2 v0 sC).trans h2))⟩
 .exact (aR _ p2 p0 v2 sC.symm).trans ((aR _ J p0 v1 sB.symm).trans g0)
 .exact (aR _ p2 J v2 qI.symm).trans g1
def zrr (p0 J p2:Addr) (w:World):
  CallsD Tryz.prog 428 #[.pointer (some p0),.pointer (some J),.pointer (some p2)] .returning w λe u' w'=>e= .returned (.tuple #[])/\u'= .returning/\w'=w:=by
 refine eQ Tryz.func428 rfl λc₀ cs hu=>?_;apply bY;apply cj;simp [wpOpsS,go_sem,recoverD,hu,Tryz.ntmps428,Exit.thenS];refine dY ?_
 go_wp2
 cases c₀;simp_all [bodyPostS,results,Tryz.results428]
def zxO (x:Int) (W:World):(Instr.typeAssert (.iface 416 (.int .i64 x)) 20 416 true).run Tryz.prog W= .ok (.tuple #[.int .i64 x,.bool true]) W:=fX
def zuU (p0 p1 p2:Addr) (x:Int) (s0 s1:ByteArray) (J:Int) (w:World) (h0:w.cell? p0=some (.string s0)) (h1:w.cell? p1=some (.string s1)) (h2:w.cell? p2=some (.int .i64 J)) (f0:w.frozen? p0=false) (f1:w.frozen? p1=false) (f2:w.frozen? p2=false) (sB:p1≠p0) (sC:p2≠p0) (qI:p2≠p1):
  CallsD Tryz.prog 428 #[.pointer (some p0),.pointer (some p1),.pointer (some p2)] (.panicking [{ v:= .iface 416 (.int .i64 x),recovered:=false }]) w λe u' w'=>e= .returned (.tuple #[])/\u'= .panicking [{ v:= .iface 416 (.int .i64 x),recovered:=true }]/\w'=((w.setCell p0 (.string ⟨#[]⟩)).setCell p1 (.string ⟨#[]⟩)).setCell p2 (.int .i64 x):=by have u2:=zxO x;have nJ:∀ (x:Bool) (w:World),(Op.unary .not (.bool x)).run Tryz.prog w= .ok (.bool (!x)) w:=λ_ _=>rfl;have g1:∀v,(w.setCell p0 v).cell? p1=some (.string s1):=λv=>(aR _ p0 p1 _ sB.symm).trans h1;have g2:∀v u,((w.setCell p0 v).setCell p1 u).cell? p2=some (.int .i64 J):=λv u=>(aR _ p1 p2 _ qI.symm).trans ((aR _ p0 p2 _ sC.symm).trans h2);refine eQ Tryz.func428 rfl λc₀ cs hu=>?_;apply bY;apply cj;simp [wpOpsS,go_sem,recoverD,hu,Tryz.ntmps428,Exit.thenS];apply bY;apply cj;simp [wpOpsS,go_sem,Exit.thenS];refine wpS_cond (t:=true) pU ?_;simp only [av];apply bY;apply cj;simp [wpOpsS,go_sem,Exit.thenS,u2];apply bY;apply bY;apply cj;simp [wpOpsS,go_sem,Exit.thenS,nJ];refine wpS_cond (t:=false) pU ?_;simp only [bj,aK];refine dY (wp_skip ?_);simp only [Exit.thenS];apply bY;apply cj;simp [wpOpsS,go_sem,Exit.thenS];apply cj;simp [wpOpsS,go_sem,Exit.thenS,h0,f0,f1,f2,g1,g2,bodyPostS,results,Tryz.results428]
structure Read3 (w W:World) (z0 z1 z2:Value):Prop where
 g:Grown w W
 c0:W.cell? ⟨w.heap.size,0,none⟩=some z0
 c1:W.cell? ⟨w.heap.size+1,0,none⟩=some z1
 c2:W.cell? ⟨w.heap.size+1+1,0,none⟩=some z2
 f0:W.frozen? ⟨w.heap.size,0,none⟩=false
 f1:W.frozen? ⟨w.heap.size+1,0,none⟩=false
 f2:W.frozen? ⟨w.heap.size+1+1,0,none⟩=false
def zxP (s t s':ByteArray) (w:World)
  (kj:Calls Tryz.prog 391 #[.pointer (some ⟨w.heap.size+1+1+1,0,none⟩)] ((((w.alloc (.cells #[.string ⟨#[]⟩] 9)).alloc (.cells #[.string ⟨#[]⟩] 9)).alloc (.cells #[.int .i64 0] 77)).alloc (.cells #[.string s] 419)) λe W=>e= .returned (.string t)/\Read3 w W (.string ⟨#[]⟩) (.string ⟨#[]⟩) (.int .i64 0)/\W.cell? ⟨w.heap.size+1+1+1,0,none⟩=some (.string s')):
  Calls Tryz.prog 390 #[.string s,.func (.func 391) #[] #[]] w λe w'=>e= .returned (.tuple #[.string t,.string s',.int .i64 0])/\Grown w w':=by
 have qf:∀ (fn:Fn) (first cap:Array Value) (w:World),(Instr.makeFunc fn first cap).run Tryz.prog w= .ok (.func fn first cap) w:=λ_ _ _ _=>rfl
 go_enter_defers Tryz.func390,Tryz.ntmps390
 go_wp2_with (go_at_call 391;refine kj.mono ?_;rintro e W ⟨rfl,J,hr⟩;have a0:=J.c0;have a1:=J.c1;have a2:=J.c2;have f0:=J.f0;have f1:=J.f1;have f2:=J.f2)
 have b0:(W.setCell ⟨w.heap.size,0,none⟩ (.string t)).cell? ⟨w.heap.size,0,none⟩=some (.string t):=cn W _ _ a0;have b1:(W.setCell ⟨w.heap.size,0,none⟩ (.string t)).cell? ⟨w.heap.size+1,0,none⟩=some (.string ⟨#[]⟩):=(aR _ _ _ _ fZ).trans a1;have b2:(W.setCell ⟨w.heap.size,0,none⟩ (.string t)).cell? ⟨w.heap.size+1+1,0,none⟩=some (.int .i64 0):=(aR _ _ _ _ fZ).trans a2;have b3:(W.setCell ⟨w.heap.size,0,none⟩ (.string t)).cell? ⟨w.heap.size+1+1+1,0,none⟩=some (.string s'):=(aR _ _ _ _ fZ).trans hr;have d0:(W.setCell ⟨w.heap.size,0,none⟩ (.string t)).frozen? ⟨w.heap.size,0,none⟩=false:=by simp [f0]
 have d1:(W.setCell ⟨w.heap.size,0,none⟩ (.string t)).frozen? ⟨w.heap.size+1,0,none⟩=false:=by simp [f1]
 have d2:(W.setCell ⟨w.heap.size,0,none⟩ (.string t)).frozen? ⟨w.heap.size+1+1,0,none⟩=false:=by simp [f2]
 obtain ⟨X,hX⟩:∃X,X=W.setCell ⟨w.heap.size,0,none⟩ (.string t):=⟨_,rfl⟩
 have u3:Grown w X:=by rw [hX];exact J.g.set (aj _) _
 rw [<-hX] at b0 b1 b2 b3 d0 d1 d2;rw [<-hX];clear a0 a1 a2 f0 f1 f2 hX
 go_region
 all_goals go_wp2
 all_goals
  refine dw (f:=428) (args:= #[.pointer (some ⟨w.heap.size,0,none⟩),.pointer (some ⟨w.heap.size+1,0,none⟩),.pointer (some ⟨w.heap.size+1+1,0,none⟩)]) fZ mU ?_;refine (zrr _ _ _ _).mono ?_;rintro e u' w'' ⟨rfl,rfl,rfl⟩;obtain ⟨Y,hY⟩:∃Y,Y=(((X.setCell ⟨w.heap.size,0,none⟩ (.string t)).setCell ⟨w.heap.size+1,0,none⟩ (.string s')).setCell ⟨w.heap.size+1+1,0,none⟩ (.int .i64 0)).drew:=⟨_,rfl⟩
  have hg:Grown w Y:=by rw [hY];exact (((u3.set (aj _) _).set (cM _) _).set (dZ (cM _)) _).drew
  obtain ⟨e0,e1,e2⟩:Y.cell? ⟨w.heap.size,0,none⟩=some (.string t)/\Y.cell? ⟨w.heap.size+1,0,none⟩=some (.string s')/\Y.cell? ⟨w.heap.size+1+1,0,none⟩=some (.int .i64 0):=by rw [hY];exact zBW _ _ _ b0 b1 b2 fZ fZ fZ
  rw [<-hY];simp [Leaves,settle,results,Tryz.results390,go_sem,e0,e1,e2,hg]
def zxQ (s:ByteArray) (x:Int) (w:World)
  (kj:Calls Tryz.prog 391 #[.pointer (some ⟨w.heap.size+1+1+1,0,none⟩)] ((((w.alloc (.cells #[.string ⟨#[]⟩] 9)).alloc (.cells #[.string ⟨#[]⟩] 9)).alloc (.cells #[.int .i64 0] 77)).alloc (.cells #[.string s] 419)) λe W=>e= .panicked [{ v:= .iface 416 (.int .i64 x),recovered:=false }]/\Read3 w W (.string ⟨#[]⟩) (.string ⟨#[]⟩) (.int .i64 0)):
  Calls Tryz.prog 390 #[.string s,.func (.func 391) #[] #[]] w λe w'=>e= .returned (.tuple #[.string ⟨#[]⟩,.string ⟨#[]⟩,.int .i64 x])/\Grown w w':=by
 have qf:∀ (fn:Fn) (first cap:Array Value) (w:World),(Instr.makeFunc fn first cap).run Tryz.prog w= .ok (.func fn first cap) w:=λ_ _ _ _=>rfl
 go_enter_defers Tryz.func390,Tryz.ntmps390
 go_wp2_with (go_at_call 391;refine kj.mono ?_;rintro e W ⟨rfl,J⟩)
 refine dw (f:=428) (args:= #[.pointer (some ⟨w.heap.size,0,none⟩),.pointer (some ⟨w.heap.size+1,0,none⟩),.pointer (some ⟨w.heap.size+1+1,0,none⟩)]) fZ mU ?_;refine (zuU _ _ _ x _ _ _ _ J.c0 J.c1 J.c2 J.f0 J.f1 J.f2 fZ fZ fZ).mono ?_;rintro e u' w'' ⟨rfl,rfl,rfl⟩;obtain ⟨Y,hY⟩:∃Y,Y=((W.setCell ⟨w.heap.size,0,none⟩ (.string ⟨#[]⟩)).setCell ⟨w.heap.size+1,0,none⟩ (.string ⟨#[]⟩)).setCell ⟨w.heap.size+1+1,0,none⟩ (.int .i64 x):=⟨_,rfl⟩
 have hg:Grown w Y:=by rw [hY];exact ((J.g.set (aj _) _).set (cM _) _).set (dZ (cM _)) _
 obtain ⟨e0,e1,e2⟩:Y.cell? ⟨w.heap.size,0,none⟩=some (.string ⟨#[]⟩)/\Y.cell? ⟨w.heap.size+1,0,none⟩=some (.string ⟨#[]⟩)/\Y.cell? ⟨w.heap.size+1+1,0,none⟩=some (.int .i64 x):=by rw [hY];exact zBW _ _ _ J.c0 J.c1 J.c2 fZ fZ fZ
 rw [<-hY];simp [Leaves,settle,results,Tryz.results390,go_sem,e0,e1,e2,hg]
end Go.Proofs.YtgldbfelccddbaaGreat
namespace Go.Proofs.YtgldbfelccddbaaGreat
open Go Go.RowKit
def zrs (p0 J p2:Addr) (w:World):
  CallsD Tryz.prog 292 #[.pointer (some p0),.pointer (some J),.pointer (some p2)] .returning w λe u' w'=>e= .returned (.tuple #[])/\u'= .returning/\w'=w:=by
 refine eQ Tryz.func292 rfl λc₀ cs hu=>?_;apply bY;apply cj;simp [wpOpsS,go_sem,recoverD,hu,Tryz.ntmps292,Exit.thenS];refine dY ?_
 go_wp2
 cases c₀;simp_all [bodyPostS,results,Tryz.results292]
structure Cells4 (w:World) (b:Nat) (v0 v1 v2 v3:Value):Prop where
 c0:w.cell? ⟨b,0,none⟩=some v0
 c1:w.cell? ⟨b,1,none⟩=some v1
 c2:w.cell? ⟨b+1,0,none⟩=some v2
 c3:w.cell? ⟨b+1+1,0,none⟩=some v3
 f0:w.frozen? ⟨b,0,none⟩=false
 f1:w.frozen? ⟨b,1,none⟩=false
 f2:w.frozen? ⟨b+1,0,none⟩=false
 f3:w.frozen? ⟨b+1+1,0,none⟩=false
def set4 (w:World) (b:Nat) (v0 v1 v2 v3:Value):World:=(((w.setCell ⟨b,0,none⟩ v0).setCell ⟨b,1,none⟩ v1).setCell ⟨b+1,0,none⟩ v2).setCell ⟨b+1+1,0,none⟩ v3
def Cells4.s1 {w:World} {b:Nat} {v0 v1 v2 v3:Value} (h:Cells4 w b v0 v1 v2 v3) (J:Value):(w.setCell ⟨b,0,none⟩ J).cell? ⟨b,1,none⟩=some v1:=(aR _ _ _ _ fZ).trans h.c1
def Cells4.s2 {w:World} {b:Nat} {v0 v1 v2 v3:Value} (h:Cells4 w b v0 v1 v2 v3) (J u1:Value):((w.setCell ⟨b,0,none⟩ J).setCell ⟨b,1,none⟩ u1).cell? ⟨b+1,0,none⟩=some v2:=(aR _ _ _ _ fZ).trans ((aR _ _ _ _ fZ).trans h.c2)
def Cells4.s3 {w:World} {b:Nat} {v0 v1 v2 v3:Value} (h:Cells4 w b v0 v1 v2 v3) (J u1 u2:Value):(((w.setCell ⟨b,0,none⟩ J).setCell ⟨b,1,none⟩ u1).setCell ⟨b+1,0,none⟩ u2).cell? ⟨b+1+1,0,none⟩=some v3:=(aR _ _ _ _ fZ).trans ((aR _ _ _ _ fZ).trans ((aR _ _ _ _ fZ).trans h.c3))
def Cells4.set {w:World} {b:Nat} {v0 v1 v2 v3:Value} (h:Cells4 w b v0 v1 v2 v3) (J u1 u2 u3:Value):Cells4 (set4 w b J u1 u2 u3) b J u1 u2 u3:=by
 have g0:=cn w _ J h.c0;have g1:=cn _ _ u1 (h.s1 J);have g2:=cn _ _ u2 (h.s2 J u1);have g3:=cn _ _ u3 (h.s3 J u1 u2);refine ⟨?_,?_,?_,g3,by simp [set4,h.f0],by simp [set4,h.f1],by simp [set4,h.f2],by simp [set4,h.f3]⟩
 .exact (aR _ _ _ _ fZ).trans ((aR _ _ _ _ fZ).trans ((aR _ _ _ _ fZ).trans g0))
 .exact (aR _ _ _ _ fZ).trans ((aR _ _ _ _ fZ).trans g1)
 .exact (aR _ _ _ _ fZ).trans g2
def Cells4.alloc {w:World} {b:Nat} {v0 v1 v2 v3:Value} (h:Cells4 w b v0 v1 v2 v3) (J:b+1+1<w.heap.size) (c:Array Value) (t:TypeId):Cells4 (w.alloc (.cells c t)) b v0 v1 v2 v3:=
 ⟨(eR _ _ _ fT).trans h.c0,(eR _ _ _ fT).trans h.c1,(eR _ _ _ fT).trans h.c2,(eR _ _ _ fT).trans h.c3,(frozen?_alloc_cells _ _ _ _).trans h.f0,(frozen?_alloc_cells _ _ _ _).trans h.f1,(frozen?_alloc_cells _ _ _ _).trans h.f2,(frozen?_alloc_cells _ _ _ _).trans h.f3⟩
def Cells4.two {w:World} {b:Nat} {v0 v1 v2 v3:Value} (h:Cells4 w b v0 v1 v2 v3) (J u1:Value):Cells4 ((w.setCell ⟨b,0,none⟩ J).setCell ⟨b,1,none⟩ u1) b J u1 v2 v3:=
 ⟨(aR _ _ _ _ fZ).trans (cn w _ J h.c0),cn _ _ u1 (h.s1 J),h.s2 J u1,(aR _ _ _ _ fZ).trans ((aR _ _ _ _ fZ).trans h.c3),by simp [h.f0],by simp [h.f1],by simp [h.f2],by simp [h.f3]⟩
def Grown.alloc {w W:World} (h:Grown w W) (o:Obj):Grown w (W.alloc o):=⟨h.os,h.tape,h.output,by rw [ck];exact dZ h.size,λb J=>by refine Eq.trans ?_ (h.keep b J);have:=h.size;simp only [World.alloc,Array.getElem?_push];rw [U fT]⟩
def zuV (b:Nat) (x:Int) (v0 v1 v2 v3:Value) (w:World) (h:Cells4 w b v0 v1 v2 v3) (hb:b+1+1<w.heap.size):
  CallsD Tryz.prog 292 #[.pointer (some ⟨b,0,none⟩),.pointer (some ⟨b+1,0,none⟩),.pointer (some ⟨b+1+1,0,none⟩)] (.panicking [{ v:= .iface 416 (.int .i64 x),recovered:=false }]) w λe u' w'=>e= .returned (.tuple #[])/\u'= .panicking [{ v:= .iface 416 (.int .i64 x),recovered:=true }]/\w'=set4 (w.alloc (.cells #[.int .u32 0,.string ⟨#[]⟩] 177)) b (.int .u32 0) (.string ⟨#[]⟩) (.string ⟨#[]⟩) (.int .i64 x):=by
 have u2:=zxO x;have nJ:∀ (x:Bool) (w:World),(Op.unary .not (.bool x)).run Tryz.prog w= .ok (.bool (!x)) w:=λ_ _=>rfl;refine eQ Tryz.func292 rfl λc₀ cs hu=>?_;apply bY;apply cj;simp [wpOpsS,go_sem,recoverD,hu,Tryz.ntmps292,Exit.thenS];apply bY;apply cj;simp [wpOpsS,go_sem,Exit.thenS];refine wpS_cond (t:=true) pU ?_;simp only [av];apply bY;apply cj;simp [wpOpsS,go_sem,Exit.thenS,u2];apply bY;apply bY;apply cj;simp [wpOpsS,go_sem,Exit.thenS,nJ];refine wpS_cond (t:=false) pU ?_;simp only [bj,aK];refine dY (wp_skip ?_);simp only [Exit.thenS];have J:=h.alloc hb #[.int .u32 0,.string ⟨#[]⟩] 177;have q0:=J.c0;have q1:=J.s1;have q2:=J.s2;have q3:=J.s3;have f0:=J.f0;have f1:=J.f1;have f2:=J.f2;have f3:=J.f3;refine dY ?_
 go_wp2
 cases c₀;simp_all [bodyPostS,results,Tryz.results292,set4]
abbrev rdW4 (w:World) (s:ByteArray):World:=(((w.alloc (.cells #[.int .u32 0,.string ⟨#[]⟩] 177)).alloc (.cells #[.string ⟨#[]⟩] 9)).alloc (.cells #[.int .i64 0] 77)).alloc (.cells #[.string s] 419)
def zxR (k:Int) (s d s':ByteArray) (w:World)
  (kj:Calls Tryz.prog 234 #[.pointer (some ⟨w.heap.size+1+1+1,0,none⟩)] (rdW4 w s) λe W=>e= .returned (.agg #[.int .u32 k,.string d])/\Grown w W/\Cells4 W w.heap.size (.int .u32 0) (.string ⟨#[]⟩) (.string ⟨#[]⟩) (.int .i64 0)/\W.cell? ⟨w.heap.size+1+1+1,0,none⟩=some (.string s')):
  Calls Tryz.prog 233 #[.string s,.func (.func 234) #[] #[]] w λe w'=>e= .returned (.tuple #[.agg #[.int .u32 k,.string d],.string s',.int .i64 0])/\Grown w w':=by
 have qf:∀ (fn:Fn) (first cap:Array Value) (w:World),(Instr.makeFunc fn first cap).run Tryz.prog w= .ok (.func fn first cap) w:=λ_ _ _ _=>rfl
 go_enter_defers Tryz.func233,Tryz.ntmps233
 go_wp2_with (go_at_call 234;refine kj.mono ?_;rintro e W ⟨rfl,hG,J,hr⟩;have a0:=J.c0;have a1:=J.s1;have f0:=J.f0;have f1:=J.f1)
 obtain ⟨X,hX⟩:∃X,X=(W.setCell ⟨w.heap.size,0,none⟩ (.int .u32 k)).setCell ⟨w.heap.size,1,none⟩ (.string d):=⟨_,rfl⟩
 have u3:Grown w X:=by rw [hX];exact (hG.set (aj _) _).set (aj _) _
 have hC:Cells4 X w.heap.size (.int .u32 k) (.string d) (.string ⟨#[]⟩) (.int .i64 0):=by rw [hX];exact J.two _ _
 have b3:X.cell? ⟨w.heap.size+1+1+1,0,none⟩=some (.string s'):=by rw [hX];exact (aR _ _ _ _ fZ).trans ((aR _ _ _ _ fZ).trans hr)
 rw [<-hX];clear a0 a1 f0 f1 hX J;have c0:=hC.c0;have c1:=hC.c1;have q1:=hC.s1;have q2:=hC.s2;have q3:=hC.s3;have f0:=hC.f0;have f1:=hC.f1;have f2:=hC.f2;have f3:=hC.f3
 go_region
 all_goals go_wp2
 all_goals
  refine dw (f:=292) (args:= #[.pointer (some ⟨w.heap.size,0,none⟩),.pointer (some ⟨w.heap.size+1,0,none⟩),.pointer (some ⟨w.heap.size+1+1,0,none⟩)]) fZ mU ?_;refine (zrs _ _ _ _).mono ?_;rintro e u' w'' ⟨rfl,rfl,rfl⟩;obtain ⟨Y,hY⟩:∃Y,Y=(set4 X w.heap.size (.int .u32 k) (.string d) (.string s') (.int .i64 0)).drew:=⟨_,rfl⟩
  have hg:Grown w Y:=by rw [hY];exact ((((u3.set (aj _) _).set (aj _) _).set (cM _) _).set (dZ (cM _)) _).drew
  have hD:=hC.set (.int .u32 k) (.string d) (.string s') (.int .i64 0);have e0:Y.cell? ⟨w.heap.size,0,none⟩=some (.int .u32 k):=by rw [hY];exact hD.c0
  have e1:Y.cell? ⟨w.heap.size,1,none⟩=some (.string d):=by rw [hY];exact hD.c1
  have e2:Y.cell? ⟨w.heap.size+1,0,none⟩=some (.string s'):=by rw [hY];exact hD.c2
  have e3:Y.cell? ⟨w.heap.size+1+1,0,none⟩=some (.int .i64 0):=by rw [hY];exact hD.c3
  unfold set4 at hY;rw [<-hY];simp [Leaves,settle,results,Tryz.results233,go_sem,e0,e1,e2,e3,hg]
def zxS (s:ByteArray) (x:Int) (w:World)
  (kj:Calls Tryz.prog 234 #[.pointer (some ⟨w.heap.size+1+1+1,0,none⟩)] (rdW4 w s) λe W=>e= .panicked [{ v:= .iface 416 (.int .i64 x),recovered:=false }]/\Grown w W/\w.heap.size+1+1<W.heap.size/\Cells4 W w.heap.size (.int .u32 0) (.string ⟨#[]⟩) (.string ⟨#[]⟩) (.int .i64 0)):
  Calls Tryz.prog 233 #[.string s,.func (.func 234) #[] #[]] w λe w'=>e= .returned (.tuple #[.agg #[.int .u32 0,.string ⟨#[]⟩],.string ⟨#[]⟩,.int .i64 x])/\Grown w w':=by
 have qf:∀ (fn:Fn) (first cap:Array Value) (w:World),(Instr.makeFunc fn first cap).run Tryz.prog w= .ok (.func fn first cap) w:=λ_ _ _ _=>rfl
 go_enter_defers Tryz.func233,Tryz.ntmps233
 go_wp2_with (go_at_call 234;refine kj.mono ?_;rintro e W ⟨rfl,hG,J,hR⟩)
 refine dw (f:=292) (args:= #[.pointer (some ⟨w.heap.size,0,none⟩),.pointer (some ⟨w.heap.size+1,0,none⟩),.pointer (some ⟨w.heap.size+1+1,0,none⟩)]) fZ mU ?_;refine (zuV _ x _ _ _ _ _ hR J).mono ?_;rintro e u' w'' ⟨rfl,rfl,rfl⟩;obtain ⟨Y,hY⟩:∃Y,Y=set4 (W.alloc (.cells #[.int .u32 0,.string ⟨#[]⟩] 177)) w.heap.size (.int .u32 0) (.string ⟨#[]⟩) (.string ⟨#[]⟩) (.int .i64 x):=⟨_,rfl⟩
 have hg:Grown w Y:=by rw [hY];exact ((((hG.alloc _).set (aj _) _).set (aj _) _).set (cM _) _).set (dZ (cM _)) _
 have hD:=(hR.alloc J #[.int .u32 0,.string ⟨#[]⟩] 177).set (.int .u32 0) (.string ⟨#[]⟩) (.string ⟨#[]⟩) (.int .i64 x);rw [<-hY] at hD;rw [<-hY];simp [Leaves,settle,results,Tryz.results233,go_sem,hD.c0,hD.c1,hD.c2,hD.c3,hg]
end Go.Proofs.YtgldbfelccddbaaGreat
