/-
 Parts of the proof: tactics that are used often.
-/
import Derived.RangeFuncRecord
import Derived.WalkKit
import GoSem.Dispatch
import Derived.Laws.StructEq
import Derived.Laws.Cells
import Derived.KernelRfl
import Derived.ProofKit
import Derived.OpenShut
theorem U {P:Prop}(h:P:=by omega):P:=h
theorem ad {P:Prop}(h:P:=by kernel_rfl):P:=h
theorem ae {P:Prop}(h:P:=by decide):P:=h
theorem aa {P:Prop}(h:P:=by simp):P:=h
theorem af {P:Prop}(h:P:=by simp;omega):P:=h
theorem ag {P:Prop}(h:P:=by simp [hop]):P:=h
theorem ar {P:Prop}(h:P:=by rw [List.length_drop];omega):P:=h
theorem cR {P:Prop}(h:P:=by unfold tkIt;simp only [AS.le,leT,leH,zf,AsgK,AV.le,AV.leL,AObj.le,inH,idsT,idsH,AV.ids,AV.idsL,AV.idsR,AObj.ids,lk,hget,go_sem,aeq,aeq.aeqF,simprocAttr,rowC,swC,zc6,keepT]<;>and_intros<;>first|rfl|exact AV.leL_refl _|simp [inH,AV.idsL,AV.ids,hget,hs.p,hs.q,zg]):P:=h
theorem cm {P:Prop}(h:P:=by simp only [AS.le,leT,leH,zf,AsgK,AV.le,AV.leL,AObj.le,inH,idsT,idsH,AV.ids,AV.idsL,AV.idsR,AObj.ids,lk,hget,go_sem,aeq,aeq.aeqF,simprocAttr,hwi,hsn,hif,List.length_append]):P:=h
theorem cn {P:Prop}(h:P:=by simp only [AS.le,leT,leH,zf,AsgK,AV.le,AV.leL,AObj.le,inH,idsT,idsH,AV.ids,AV.idsL,AV.idsR,AObj.ids,lk,hget,go_sem,aeq,aeq.aeqF,simprocAttr,wdisk]<;>and_intros<;>rfl):P:=h
theorem cS {P:Prop}(h:P:=by rw [hIx];simp only [AS.le,leT,leH,zf,AsgK,AV.le,AV.leL,AObj.le,inH,idsT,idsH,AV.ids,AV.idsL,AV.idsR,AObj.ids,lk,hget,go_sem,aeq,aeq.aeqF,simprocAttr,rowC,swC]<;>and_intros<;>first|rfl|exact AV.leL_refl _):P:=h
theorem ax {P:Prop}(h:P:=by rw [List.length_take];omega):P:=h
theorem aj {P:Prop}(h:P:=by simpa using he):P:=h
theorem dB {P:Prop}(h:P:=by simp only [AS.le,leT,leH,zf,AsgK,AV.le,AV.leL,AObj.le,inH,idsT,idsH,AV.ids,AV.idsL,AV.idsR,AObj.ids,lk,hget,go_sem,aeq,aeq.aeqF,simprocAttr,rowC,swC]<;>and_intros<;>first|rfl|exact AV.leL_refl _|(rcases hs.t with ⟨e,_⟩|⟨e,_⟩<;>simp [inH,AV.idsL,AV.ids,e,hget,hs.p,hs.q,zg])):P:=h
theorem ak {P:Prop}(h:P:=by simpa using hc):P:=h
theorem ah {P:Prop}(h:P:=by assumption):P:=h
theorem dC {P:Prop}(h:P:=by rw [hq'];simp only [List.map_append,List.length_append,List.length_singleton,List.map_cons,List.map_nil];simp only [AS.le,leT,leH,zf,AsgK,AV.le,AV.leL,AObj.le,inH,idsT,idsH,AV.ids,AV.idsL,AV.idsR,AObj.ids,lk,hget,go_sem,aeq,aeq.aeqF,simprocAttr,hwj,extD]<;>and_intros<;>rfl):P:=h
theorem cT {P:Prop}(h:P:=by simp only [hnx];simp only [AS.le,leT,leH,zf,AsgK,AV.le,AV.leL,AObj.le,inH,idsT,idsH,AV.ids,AV.idsL,AV.idsR,AObj.ids,lk,hget,go_sem,aeq,aeq.aeqF,simprocAttr,hwi]<;>and_intros<;>rfl):P:=h
theorem aE {P:Prop}(h:P:=by rw [zi (by omega) (by omega)];omega):P:=h
theorem dD {P:Prop}(h:P:=by simp only [htk,List.map_append,List.map_cons,List.map_nil];simp only [AS.le,leT,leH,zf,AsgK,AV.le,AV.leL,AObj.le,inH,idsT,idsH,AV.ids,AV.idsL,AV.idsR,AObj.ids,lk,hget,go_sem,aeq,aeq.aeqF,simprocAttr,hwi,strD]<;>and_intros<;>rfl):P:=h
theorem av {P:Prop}(h:P:=by simp [hget] at hi):P:=h
theorem dE {P:Prop}(h:P:=by simp only [AS.le,leT,leH,zf,AsgK,AV.le,AV.leL,AObj.le,inH,idsT,idsH,AV.ids,AV.idsL,AV.idsR,AObj.ids,lk,hget,go_sem,aeq,aeq.aeqF,simprocAttr,rowC,swC,hup,hset,swLv,zcp]<;>and_intros<;>first|rfl|exact AV.leL_refl _):P:=h
theorem au {P:Prop}(h:P:=by simp only;omega):P:=h
theorem dF {P:Prop}(h:P:=by rw [hIx];simp only [AS.le,leT,leH,zf,AsgK,AV.le,AV.leL,AObj.le,inH,idsT,idsH,AV.ids,AV.idsL,AV.idsR,AObj.ids,lk,hget,go_sem,aeq,aeq.aeqF,simprocAttr,rowC,swC,hio]<;>and_intros<;>first|rfl|exact AV.leL_refl _):P:=h
theorem dG {P:Prop}(h:P:=by simp only [AS.le,leT,leH,zf,AsgK,AV.le,AV.leL,AObj.le,inH,idsT,idsH,AV.ids,AV.idsL,AV.idsR,AObj.ids,lk,hget,go_sem,aeq,aeq.aeqF,simprocAttr,hwi,List.map_append,List.length_append,u32D]<;>and_intros<;>rfl):P:=h
theorem dH {P:Prop}(h:P:=by simp only [AS.le,leT,leH,zf,AsgK,AV.le,AV.leL,AObj.le,inH,idsT,idsH,AV.ids,AV.idsL,AV.idsR,AObj.ids,lk,hget,go_sem,aeq,aeq.aeqF,simprocAttr,hp]<;>and_intros<;>first|rfl|exact AV.le_refl _|exact zw8 D.ok):P:=h
theorem dI {P:Prop}(h:P:=by unfold imgC cnZ;simp only [AS.le,leT,leH,zf,AsgK,AV.le,AV.leL,AObj.le,inH,idsT,idsH,AV.ids,AV.idsL,AV.idsR,AObj.ids,lk,hget,go_sem,aeq,aeq.aeqF,simprocAttr]<;>and_intros<;>first|rfl|rw [hg]):P:=h
theorem aw {P:Prop}(h:P:=by simp [Env.set]):P:=h
theorem aI {P:Prop}(h:P:=by rw [beq_eq_false_iff_ne];omega):P:=h
theorem aQ {P:Prop}(h:P:=by simp only [World.size_alloc];omega):P:=h
theorem dJ {P:Prop}(h:P:=by simp only [hsn];simp only [AS.le,leT,leH,zf,AsgK,AV.le,AV.leL,AObj.le,inH,idsT,idsH,AV.ids,AV.idsL,AV.idsR,AObj.ids,lk,hget,go_sem,aeq,aeq.aeqF,simprocAttr,hwi]<;>and_intros<;>rfl):P:=h
theorem dK {P:Prop}(h:P:=by unfold imgC img0;simp only [AS.le,leT,leH,zf,AsgK,AV.le,AV.leL,AObj.le,inH,idsT,idsH,AV.ids,AV.idsL,AV.idsR,AObj.ids,lk,hget,go_sem,aeq,aeq.aeqF,simprocAttr]<;>and_intros<;>rfl):P:=h
theorem aq {P:Prop}(h:P:=by simp [hh]):P:=h
theorem dL {P:Prop}(h:P:=by unfold imgC;simp only [AS.le,leT,leH,zf,AsgK,AV.le,AV.leL,AObj.le,inH,idsT,idsH,AV.ids,AV.idsL,AV.idsR,AObj.ids,lk,hget,go_sem,aeq,aeq.aeqF,simprocAttr]<;>and_intros<;>rfl):P:=h
theorem al {P:Prop}(h:P:=by simp [hi]):P:=h
theorem aD {P:Prop}(h:P:=by simp [AV.idsL,AV.ids]):P:=h
theorem aN {P:Prop}(h:P:=by simpa only [AV.ids] using hi):P:=h
theorem dM {P:Prop}(h:P:=by simp only [AS.le,leT,leH,zf,AsgK,AV.le,AV.leL,AObj.le,inH,idsT,idsH,AV.ids,AV.idsL,AV.idsR,AObj.ids,lk,hget,go_sem,aeq,aeq.aeqF,simprocAttr,hw,List.map_append,strD]):P:=h
theorem dN {P:Prop}(h:P:=by simp only [AS.le,leT,leH,zf,AsgK,AV.le,AV.leL,AObj.le,inH,idsT,idsH,AV.ids,AV.idsL,AV.idsR,AObj.ids,lk,hget,go_sem,aeq,aeq.aeqF,simprocAttr,hwj]<;>and_intros<;>rfl):P:=h
theorem dO {P:Prop}(h:P:=by simp only [AS.le,leT,leH,zf,AsgK,AV.le,AV.leL,AObj.le,inH,idsT,idsH,AV.ids,AV.idsL,AV.idsR,AObj.ids,lk,hget,go_sem,aeq,aeq.aeqF,simprocAttr,hwi,hsn,zjV]):P:=h
theorem aR {P:Prop}(h:P:=by rw [List.length_append];omega):P:=h
theorem ba {P:Prop}(h:P:=by simp only [List.length_append];omega):P:=h
theorem dP {P:Prop}(h:P:=by simp only [AS.le,leT,leH,zf,AsgK,AV.le,AV.leL,AObj.le,inH,idsT,idsH,AV.ids,AV.idsL,AV.idsR,AObj.ids,lk,hget,go_sem,aeq,aeq.aeqF,simprocAttr,hwi,hst]):P:=h
theorem bA {P:Prop}(h:P:=by rw [if_neg (by omega),Int.toNat_natCast];exact ho):P:=h
theorem dQ {P:Prop}(h:P:=by simp only [AS.le,leT,leH,zf,AsgK,AV.le,AV.leL,AObj.le,inH,idsT,idsH,AV.ids,AV.idsL,AV.idsR,AObj.ids,lk,hget,go_sem,aeq,aeq.aeqF,simprocAttr,wdisk]):P:=h
theorem az {P:Prop}(h:P:=by simp [Env.set,e]):P:=h
theorem ay {P:Prop}(h:P:=by rw [hop];rfl):P:=h
theorem bb {P:Prop}(h:P:=by have:=of_decide_eq_true hc;omega):P:=h
theorem aS {P:Prop}(h:P:=by rw [IntKind.wrap_i64];omega):P:=h
theorem ai {P:Prop}(h:P:=by cases e):P:=h
theorem aA {P:Prop}(h:P:=by simpa using hr):P:=h
theorem bQ {P:Prop}(h:P:=by rw [zdE,List.length_take,Nat.min_eq_left (by omega)]):P:=h
theorem cp {P:Prop}(h:P:=by show (t++X).length≤4116*(i+1);rw [List.length_append];omega):P:=h
theorem cU {P:Prop}(h:P:=by show (ids++ [_]).length≤i+1;rw [List.length_append];exact Nat.succ_le_succ hids):P:=h
theorem aO {P:Prop}(h:P:=by simp only [reqQ];omega):P:=h
theorem aJ {P:Prop}(h:P:=by intro ds e;cases e):P:=h
theorem bR {P:Prop}(h:P:=by rw [← zfk (fun x hx=>(hev x hx).1)];exact hco):P:=h
theorem cq {P:Prop}(h:P:=by simp only [AV.le] at hl;obtain ⟨rfl,rfl⟩:=hl;exact hr):P:=h
theorem bh {P:Prop}(h:P:=by rw [putS8,if_neg (by omega)];rfl):P:=h
theorem bB {P:Prop}(h:P:=by simp only [List.length_drop];omega):P:=h
theorem dR {P:Prop}(h:P:=by unfold aeff;dsimp only;refine ⟨h1,h2,h3,h4,h5,?_⟩;rw [hx];dsimp only;rw [hi];exact ⟨h6.1,hk⟩):P:=h
theorem aG {P:Prop}(h:P:=by simp [AV.ids]):P:=h
theorem aH {P:Prop}(h:P:=by simpa using hl):P:=h
theorem cV {P:Prop}(h:P:=by simp only [Bool.and_eq_false_iff,decide_eq_false_iff_not];omega):P:=h
theorem aP {P:Prop}(h:P:=by simp [hget] at ho):P:=h
theorem aF {P:Prop}(h:P:=by decide+kernel):P:=h
theorem bj {P:Prop}(h:P:=by simp only [AV.le,and_self]):P:=h
theorem aK {P:Prop}(h:P:=by simp [Rep,RepD]):P:=h
theorem aC {P:Prop}(h:P:=by simp [hget]):P:=h
theorem bS {P:Prop}(h:P:=by cases o.dst<;>exact Evo.refl _ _ _ _):P:=h
theorem bk {P:Prop}(h:P:=by simpa only [Rep] using hr):P:=h
theorem bl {P:Prop}(h:P:=by unfold imin;split<;>omega):P:=h
theorem dS {P:Prop}(h:P:=by rw [e1,hy];simp only [hrunE,hrunN,hrun,Sem.run_bind,Sem.run_pure,Result.andThen_ok]):P:=h
theorem aT {P:Prop}(h:P:=by simpa using hc1):P:=h
theorem bc {P:Prop}(h:P:=by simp [hget,Ne.symm e]):P:=h
theorem aL {P:Prop}(h:P:=by rw [hu];simp):P:=h
theorem bC {P:Prop}(h:P:=by rw [ze,List.length_map,hbl]):P:=h
theorem aM {P:Prop}(h:P:=by simpa using h):P:=h
theorem cr {P:Prop}(h:P:=by simp only [AV.le] at hl;subst hl;exact hr):P:=h
theorem aU {P:Prop}(h:P:=by simp [execOp,h1]):P:=h
theorem dT {P:Prop}(h:P:=by have hg':w.drew.heap[g]?=some (.cells cur 5 (0,0)):=hg;simp [World.shape?,hg']):P:=h
theorem ct {P:Prop}(h:P:=by rw [sizeS,List.length_append,zeS,zu];rfl):P:=h
theorem cW {P:Prop}(h:P:=by simp only [Bool.and_eq_true,decide_eq_true_eq];omega):P:=h
theorem bU {P:Prop}(h:P:=by rw [hop];simp only [aval,hev]):P:=h
theorem cu {P:Prop}(h:P:=by rintro e a' w' ⟨rfl,hr⟩;exact hr):P:=h
theorem cw {P:Prop}(h:P:=by rw [hB];exact Nat.le_trans (zcU s) hs):P:=h
theorem bm {P:Prop}(h:P:=by rw [e] at hd;exact hd):P:=h
theorem dU {P:Prop}(h:P:=by rw [List.getD_eq_getElem?_getD,List.getElem?_eq_getElem (by omega)];rfl):P:=h
theorem cy {P:Prop}(h:P:=by have:=of_decide_eq_false hc2;omega):P:=h
theorem dV {P:Prop}(h:P:=by rw [List.drop_drop];rwa [show k+i*k=(i+1)*k by rw [Nat.succ_mul];omega]):P:=h
theorem bn {P:Prop}(h:P:=by simp only [go_sem]):P:=h
theorem dW {P:Prop}(h:P:=by rw [← hH];have:= @zxb s H n (by rw [hHl];exact hn);rwa [hHl] at this):P:=h
theorem dX {P:Prop}(h:P:=by simp only [AV.le] at hl;obtain ⟨rfl,rfl,rfl,rfl,rfl⟩:=hl;exact hr):P:=h
theorem bd {P:Prop}(h:P:=by simp only [AV.le]):P:=h
theorem dY {P:Prop}(h:P:=by simpa [Reps.length hr ▸ List.take_length (l:=c.toList)] using hr):P:=h
theorem cz {P:Prop}(h:P:=by rw [hT];exact ⟨by decide,hV⟩):P:=h
theorem cA {P:Prop}(h:P:=by have:=of_decide_eq_false hc;omega):P:=h
theorem dZ {P:Prop}(h:P:=by simp [inH,idsH,AObj.ids,AV.idsL,AV.ids,swC,rowC,hget,hs.p,hs.q,zg]):P:=h
theorem cX {P:Prop}(h:P:=by rw [Array.getElem?_append_left hk'];exact hx'):P:=h
theorem aV {P:Prop}(h:P:=by simpa using h1):P:=h
theorem ea {P:Prop}(h:P:=by rw [Int.tdiv_eq_ediv_of_nonneg (by omega),zi (by omega) (by omega)]):P:=h
theorem eb {P:Prop}(h:P:=by rw [hX,sayS,if_neg (by rw [List.length_append];omega)];simp [ansHd]):P:=h
theorem bD {P:Prop}(h:P:=by intro i ob e;cases e):P:=h
theorem cB {P:Prop}(h:P:=by simp [Act.eval,Array.replicate]):P:=h
theorem cY {P:Prop}(h:P:=by simp only [Reps] at hr;subst hr;simp [Reps]):P:=h
theorem cZ {P:Prop}(h:P:=by cases d<;>first|rfl|exact absurd rfl (hd _)):P:=h
theorem aB {P:Prop}(h:P:=by cases h):P:=h
theorem cC {P:Prop}(h:P:=by show t.length≤4116*(i+1);omega):P:=h
theorem bE {P:Prop}(h:P:=by simp [ByteArray.size]):P:=h
theorem ed {P:Prop}(h:P:=by unfold aeff;dsimp only;rw [hf];exact ⟨h1,h2,h3.1,h3.2.1,hk⟩):P:=h
theorem bV {P:Prop}(h:P:=by simpa only [RepD] using h):P:=h
theorem bW {P:Prop}(h:P:=by rw [hop];simp [isVal,zdH]):P:=h
theorem cD {P:Prop}(h:P:=by rw [hD,List.length_drop];omega):P:=h
theorem da {P:Prop}(h:P:=by rw [tkV,if_neg (by rw [hog];decide)];rfl):P:=h
theorem ee {P:Prop}(h:P:=by rw [hI];simp only [hst,swI];rw [if_neg (by rw [hgn];decide)]):P:=h
theorem bp {P:Prop}(h:P:=by simp [hget] at h1):P:=h
theorem bf {P:Prop}(h:P:=by simp [AS.bnd]):P:=h
theorem ef {P:Prop}(h:P:=by simp only [hget];rw [if_neg (Ne.symm hj),zfi,zdr,if_neg hj]):P:=h
theorem cE {P:Prop}(h:P:=by simpa only [AV.ids] using h):P:=h
theorem ei {P:Prop}(h:P:=by simp only [List.length_append,List.length_singleton];omega):P:=h
theorem ej {P:Prop}(h:P:=by show (nwDo w).out.length+10000000*ngM (nwDo w).n≤_;omega):P:=h
theorem en {P:Prop}(h:P:=by have:=h.ok.x.maps;simp only [xpOf,List.length_map];omega):P:=h
theorem bX {P:Prop}(h:P:=by cases vs;simpa using e0):P:=h
theorem bY {P:Prop}(h:P:=by have:=hco.tasks;omega):P:=h
theorem db {P:Prop}(h:P:=by simp only [AV.le];exact AV.leL_refl cs):P:=h
theorem bF {P:Prop}(h:P:=by rw [zdZ hco];decide):P:=h
theorem ep {P:Prop}(h:P:=by intro x hx;obtain ⟨q,_,rfl⟩:=List.mem_map.1 hx;rfl):P:=h
theorem cF {P:Prop}(h:P:=by rw [List.length_map];omega):P:=h
theorem eu {P:Prop}(h:P:=by intro r hr;obtain ⟨q,_,rfl⟩:=List.mem_map.1 hr;rfl):P:=h
theorem ew {P:Prop}(h:P:=by rw [List.getD_eq_getElem?_getD,List.getElem?_map,ho];rfl):P:=h
theorem bZ {P:Prop}(h:P:=by simp [isEff,hcal] at e):P:=h
theorem dc {P:Prop}(h:P:=by rw [ze,List.length_map,hbl];omega):P:=h
theorem df {P:Prop}(h:P:=by rw [hIx];exact ziP hp hq (.inl rfl)):P:=h
theorem dg {P:Prop}(h:P:=by simp only [List.length_cons];omega):P:=h
theorem bq {P:Prop}(h:P:=by simp [RepRows]):P:=h
theorem bG {P:Prop}(h:P:=by simp [GoesOn,zbB]):P:=h
theorem dh {P:Prop}(h:P:=by rw [List.take_take,Nat.min_self]):P:=h
theorem di {P:Prop}(h:P:=by rw [hr];exact Bool.false_ne_true):P:=h
theorem dj {P:Prop}(h:P:=by have:=(h.ok.conn o ho).tasks;omega):P:=h
theorem cG {P:Prop}(h:P:=by rw [hpost,zg,zdB,zaZ];rfl):P:=h
theorem dk {P:Prop}(h:P:=by rintro r h' ⟨m,rfl,rfl⟩;rfl):P:=h
theorem ey {P:Prop}(h:P:=by rw [List.length_map,hfl hk];exact Nat.le_refl _):P:=h
theorem bH {P:Prop}(h:P:=by rw [hb];decide):P:=h
theorem ca {P:Prop}(h:P:=by rw [hq'];simp;omega):P:=h
theorem dq {P:Prop}(h:P:=by rintro r h' ⟨m,_,rfl⟩;rfl):P:=h
theorem ez {P:Prop}(h:P:=by simp only [xpOf,List.length_map];exact hx.maps):P:=h
theorem bt {P:Prop}(h:P:=by cases x<;>rfl):P:=h
theorem aW {P:Prop}(h:P:=by simp at hl):P:=h
theorem bI {P:Prop}(h:P:=by simpa using h22):P:=h
theorem bJ {P:Prop}(h:P:=by simpa using hk):P:=h
theorem eA {P:Prop}(h:P:=by rw [hfoot l r' hr',hfoot i r hr];exact hcf):P:=h
theorem bg {P:Prop}(h:P:=by rw [hk];rfl):P:=h
theorem aX {P:Prop}(h:P:=by simp [ho]):P:=h
theorem bK {P:Prop}(h:P:=by simpa using h3):P:=h
theorem cb {P:Prop}(h:P:=by simp [RepDs,RepD]):P:=h
theorem dr {P:Prop}(h:P:=by rw [hop];simp [isEff,hcal]):P:=h
theorem cH {P:Prop}(h:P:=by rw [hpre];exact zdB _):P:=h
theorem aY {P:Prop}(h:P:=by simp at h):P:=h
theorem du {P:Prop}(h:P:=by show ids.length≤i+1;omega):P:=h
theorem dv {P:Prop}(h:P:=by rw [← hsz];exact hmt.symm):P:=h
theorem cI {P:Prop}(h:P:=by rw [hX];exact zby ..):P:=h
theorem dw {P:Prop}(h:P:=by rw [zr,if_pos hp];exact ho):P:=h
theorem bL {P:Prop}(h:P:=by rw [hw1];rfl):P:=h
theorem bM {P:Prop}(h:P:=by simp [cxOf]):P:=h
theorem cd {P:Prop}(h:P:=by simpa using hi):P:=h
theorem cf {P:Prop}(h:P:=by simpa using hz):P:=h
theorem cJ {P:Prop}(h:P:=by simpa using hl.symm):P:=h
theorem cg {P:Prop}(h:P:=by simp [lk] at hk):P:=h
theorem dx {P:Prop}(h:P:=by simp [isVal,zdH,hcal,isX]):P:=h
theorem dy {P:Prop}(h:P:=by rw [hσ2,hσ];split<;>rfl):P:=h
theorem cj {P:Prop}(h:P:=by simpa using hs):P:=h
theorem dz {P:Prop}(h:P:=by simpa [Env.set] using hz):P:=h
theorem dA {P:Prop}(h:P:=by unfold burnt;split<;>rfl):P:=h
theorem bw {P:Prop}(h:P:=by simp [h1]):P:=h
theorem bx {P:Prop}(h:P:=by simp [hq]):P:=h
theorem bO {P:Prop}(h:P:=by simp [Reps]):P:=h
theorem ck {P:Prop}(h:P:=by simpa using h0):P:=h
theorem cK {P:Prop}(h:P:=by rw [zx hE.b0];rfl):P:=h
theorem cL {P:Prop}(h:P:=by rw [z6 hE.b0];rfl):P:=h
theorem cM {P:Prop}(h:P:=by rw [hgn];decide):P:=h
theorem cN {P:Prop}(h:P:=by simpa using hj):P:=h
theorem cO {P:Prop}(h:P:=by simpa using hpj):P:=h
theorem cP {P:Prop}(h:P:=by simp at hc;omega):P:=h
theorem cQ {P:Prop}(h:P:=by rw [ze5];omega):P:=h
theorem bz {P:Prop}(h:P:=by rw [hb,e]):P:=h
theorem bP {P:Prop}(h:P:=by simp [e]):P:=h
