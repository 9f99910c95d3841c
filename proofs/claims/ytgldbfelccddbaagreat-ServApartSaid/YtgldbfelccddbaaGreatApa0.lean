/-
 Parts of the proof: tactics that are used often.
-/
import Derived.RangeFuncRecord
import Derived.WalkKit
import GoSem.Dispatch
import Derived.Laws.StructEq
import Derived.Laws.Cells
import Derived.KernelRfl
import Derived.ProofKit
import Derived.OpenShut
set_option linter.all false
variable {P:Prop}
inductive Lzzz(h:P):Prop|mk
def lzzz(h:P)(u:Lzzz h):P:=h
def lzy(h:P:=by apply_rules (newGoals:=.nonDependentOnly) (maxDepth:=1) only [lzzz];constructor):P:=h
def fT(h:P:=by omega):P:=h
def fU(h:P:=by grind):P:=h
def fX(h:P:=by kernel_rfl):P:=h
def iV(h:P:=by rw [hI];simp only [AS.le,leT,leH,ze,AsgK,AV.le,AV.leL,AObj.le,inH,idsT,idsH,AV.ids,AV.idsL,AV.idsR,AObj.ids,lk,hget,go_sem,aeq,aeq.aeqF,simprocAttr]<;>simp [AV.leL,AV.le]):P:=h
def iW(h:P:=by rw [hI];simp only [AS.le,leT,leH,ze,AsgK,AV.le,AV.leL,AObj.le,inH,idsT,idsH,AV.ids,AV.idsL,AV.idsR,AObj.ids,lk,hget,go_sem,aeq,aeq.aeqF,simprocAttr]<;>simp):P:=h
def gb(h:P:=by decide):P:=h
def fZ(h:P:=by simp):P:=h
def gh(h:P:=by simp;omega):P:=h
def ja(h:P:=by intro t ht;simp at ht;first|(rcases ht with rfl|rfl<;>simp [cxOf,cxY]<;>done)|(subst ht;simp [cxOf,cxY])):P:=h
def gp(h:P:=by simpa using he):P:=h
def gD(h:P:=by simp [AV.idsL,AV.ids]):P:=h
def tF(h:P:=by unfold tkIt;simp only [AS.le,leT,leH,ze,AsgK,AV.le,AV.leL,AObj.le,inH,idsT,idsH,AV.ids,AV.idsL,AV.idsR,AObj.ids,lk,hget,go_sem,aeq,aeq.aeqF,simprocAttr,rowC,swC,zeu,keepT]<;>and_intros<;>first|rfl|exact AV.leL_refl _|simp [inH,AV.idsL,AV.ids,hget,hs.p,hs.q,zn]):P:=h
def gP(h:P:=by rw [zf (by omega) (by omega)];omega):P:=h
def gr(h:P:=by assumption):P:=h
def iK(h:P:=by intro x hx;obtain ⟨q,_,rfl⟩:=ba.1 hx;rfl):P:=h
def gA(h:P:=by simpa using hc):P:=h
def jf(h:P:=by simp only [go_sem,aeq,aeq.aeqF,simprocAttr]):P:=h
def xT(h:P:=by simp only [AS.le,leT,leH,ze,AsgK,AV.le,AV.leL,AObj.le,inH,idsT,idsH,AV.ids,AV.idsL,AV.idsR,AObj.ids,lk,hget,go_sem,aeq,aeq.aeqF,simprocAttr,rowC,swC]<;>and_intros<;>first|rfl|exact AV.leL_refl _|(rcases hs.t with ⟨e,_⟩|⟨e,_⟩<;>simp [inH,AV.idsL,AV.ids,e,hget,hs.p,hs.q,zn])):P:=h
def xU(h:P:=by rw [hσ];unfold img0;simp only [AS.le,leT,leH,ze,AsgK,AV.le,AV.leL,AObj.le,inH,idsT,idsH,AV.ids,AV.idsL,AV.idsR,AObj.ids,lk,hget,go_sem,aeq,aeq.aeqF,simprocAttr,rowC,swC]<;>and_intros<;>first|rfl|exact AV.leL_refl _|simp [inH,AV.idsL,AV.ids,hget,iE,iF,zn]):P:=h
def gG(h:P:=by rw [ak];omega):P:=h
def gH(h:P:=by simp only;omega):P:=h
def gK(h:P:=by simp [hget] at hi):P:=h
def xV(h:P:=by simp only [AS.le,leT,leH,ze,AsgK,AV.le,AV.leL,AObj.le,inH,idsT,idsH,AV.ids,AV.idsL,AV.idsR,AObj.ids,lk,hget,go_sem,aeq,aeq.aeqF,simprocAttr,rowC,swC,hup,hset,swLv,ze4]<;>and_intros<;>first|rfl|exact AV.leL_refl _):P:=h
def jh(h:P:=by rw [hG];first|trivial|rfl|simp):P:=h
def xW(h:P:=by simp only [AS.le,leT,leH,ze,AsgK,AV.le,AV.leL,AObj.le,inH,idsT,idsH,AV.ids,AV.idsL,AV.idsR,AObj.ids,lk,hget,go_sem,aeq,aeq.aeqF,simprocAttr,hp]<;>and_intros<;>first|rfl|exact AV.le_refl _|exact zBX D.ok):P:=h
def xX(h:P:=by unfold imgC cnZ;simp only [AS.le,leT,leH,ze,AsgK,AV.le,AV.leL,AObj.le,inH,idsT,idsH,AV.ids,AV.idsL,AV.idsR,AObj.ids,lk,hget,go_sem,aeq,aeq.aeqF,simprocAttr]<;>and_intros<;>first|rfl|rw [J]):P:=h
def gM(h:P:=by simp [Env.set]):P:=h
def j6(h:P:=by simp [AObj.ids,AV.idsL,AV.ids,wkP]):P:=h
def jP(h:P:=by simpa only [AV.ids] using hi):P:=h
def x8(h:P:=by rw [hI];simp only [AS.le,leT,leH,ze,AsgK,AV.le,AV.leL,AObj.le,inH,idsT,idsH,AV.ids,AV.idsL,AV.idsR,AObj.ids,lk,hget,go_sem,aeq,aeq.aeqF,simprocAttr,rdA]):P:=h
def gQ(h:P:=by simpa using J):P:=h
def gY(h:P:=by simp [Env.set,e]):P:=h
def jQ(h:P:=by unfold imin;split<;>omega):P:=h
def j8(h:P:=by rw [putS8,U (by omega)];rfl):P:=h
def hU(h:P:=by rw [az];omega):P:=h
def iI(h:P:=by simp [Rep,RepD]):P:=h
def jR(h:P:=by simp only [reqQ];omega):P:=h
def iD(h:P:=by decide+kernel):P:=h
def ju(h:P:=by simp [cxOf,cxY]):P:=h
def pG(h:P:=by simp only [AV.le] at J;obtain ⟨rfl,rfl⟩:=J;exact hr):P:=h
def ke(h:P:=by simp only [ck];omega):P:=h
def lT(h:P:=by cases o.dst<;>exact Evo.refl _ _ _ _):P:=h
def gT(h:P:=by simp [an]):P:=h
def jH(h:P:=by rw [J];exact bS):P:=h
def nF(h:P:=by simp only [<-l5,kJ,jstep];exact lxb fW):P:=h
def lq(h:P:=by simp [AV.idsL,AV.ids,entA]):P:=h
def jz(h:P:=by simp [AV.ids]):P:=h
def jE(h:P:=by rw [hI]<;>rfl):P:=h
def iM(h:P:=by rw [bz];omega):P:=h
def iN(h:P:=by rw [bb];omega):P:=h
def iJ(h:P:=by simp [hget]):P:=h
def pI(h:P:=by show (t++X).length<=4116*(i+1);rw [ae];omega):P:=h
def gN(h:P:=by cases e):P:=h
def tG(h:P:=by rw [hl];exact λq hq=>⟨(zeh q hq).2.2.2,zhn a n q hq⟩):P:=h
def jT(h:P:=by rw [<-hf];simp):P:=h
def lZ(h:P:=by first|decide|simpa using he):P:=h
def mh(h:P:=by rw [U (by omega),aw];exact ho):P:=h
def ky(h:P:=by simp [hget] at ho):P:=h
def nG(h:P:=by simp only [<-l5,kJ];exact lxb fW):P:=h
def kQ(h:P:=by rw [e] at hd;exact hd):P:=h
def pK(h:P:=by rw [<-zhd (λx hx=>(J x hx).1)];grind):P:=h
def kz(h:P:=by simp [execOp,h1]):P:=h
def kF(h:P:=by simpa using bo):P:=h
def pP(h:P:=by simp only [AV.le] at J;subst J;exact hr):P:=h
def ig(h:P:=by simp_all):P:=h
def jK(h:P:=by rw [an];rfl):P:=h
def jX(h:P:=by simpa using hr):P:=h
def kH(h:P:=by unfold aeff;grind):P:=h
def kR(h:P:=by have:=bd hc;omega):P:=h
def gS(h:P:=by cases h):P:=h
def tK(h:P:=by show (ids++ [_]).length<=i+1;rw [ae];exact fO gL):P:=h
def nH(h:P:=by rw [an];simp only [aval,ao]):P:=h
def kI(h:P:=by unfold zaU;grind):P:=h
def lu(h:P:=by simp only [AV.le,bA]):P:=h
def lv(h:P:=by simp only [go_sem]):P:=h
def kS(h:P:=by simp only [AV.le]):P:=h
def x9(h:P:=by rw [<-hH];have:= @zB4 s H n (by rw [kD];exact hn);rwa [kD] at this):P:=h
def pQ(h:P:=by rw [hT];exact ⟨by decide,hV⟩):P:=h
def yq(h:P:=by simp [inH,idsH,AObj.ids,AV.idsL,AV.ids,swC,rowC,hget,hs.p,hs.q,zn]):P:=h
def yu(h:P:=by simp only [AV.le] at J;obtain ⟨rfl,rfl,rfl,rfl,rfl⟩:=J;exact hr):P:=h
def jO(h:P:=by simp [hh]):P:=h
def pU(h:P:=by simp [Act.eval,Array.replicate]):P:=h
def uh(h:P:=by rw [jd];exact lxb (lan @rowC.eq_1 @swC.eq_1)):P:=h
def yx(h:P:=by rw [hq'];simp only [aG,ae,bl,au,bM];exact lxb (lan hwj @extD.eq_1)):P:=h
def uv(h:P:=by rw [ct (by omega),zf (by omega) (by omega)]):P:=h
def kT(h:P:=by simp [hget,bx e]):P:=h
def kU(h:P:=by rw [hc];decide):P:=h
def kW(h:P:=by rw [hq];decide):P:=h
def qh(h:P:=by show t.length<=4116*(i+1);omega):P:=h
def mj(h:P:=by simp [ByteArray.size]):P:=h
def mz(h:P:=by simp only [ak];omega):P:=h
def mF(h:P:=by rw [hl];exact zc6 a n):P:=h
def nK(h:P:=by simpa only [RepD] using h):P:=h
def nL(h:P:=by rw [zfc,az,ca (by omega)]):P:=h
def ux(h:P:=by simp only [Reps] at J;subst J;simp [Reps]):P:=h
def kK(h:P:=by rw [hop];rfl):P:=h
def lg(h:P:=by simp [AS.bnd]):P:=h
def uz(h:P:=by rintro r h' ⟨_,rfl⟩ i hi;exact hi):P:=h
def qm(h:P:=by simpa only [AV.ids] using h):P:=h
def yz(h:P:=by show (nwDo w).out.length+10000000*ngM (nwDo w).n<=_;omega):P:=h
def od(h:P:=by cases vs;simpa using e0):P:=h
def uF(h:P:=by simp only [AV.le];exact AV.leL_refl cs):P:=h
def og(h:P:=by simp [isEff,hcal] at e):P:=h
def lz(h:P:=by rw [he];decide):P:=h
def oh(h:P:=by have:=b9.tasks;omega):P:=h
def yA(h:P:=by simpa [Reps.length hr ▸ aL (l:=c.toList)] using hr):P:=h
def mI(h:P:=by rw [zfB b9];decide):P:=h
def yH(h:P:=by simp only [a7,aG,au,bM];exact lxb (lan hwi @strD.eq_1)):P:=h
def qy(h:P:=by rw [hB];exact aD (zei s) hs):P:=h
def yI(h:P:=by rw [jd];exact lxb (lan @rowC.eq_1 (lan @swC.eq_1 k5))):P:=h
def yJ(h:P:=by rw [hI];simp only [gf,swI];rw [U (by rw [jM];decide)]):P:=h
def uK(h:P:=by simp only [AV.idsL,AV.ids,zkY,bm]):P:=h
def mK(h:P:=by simp [GoesOn,zcj]):P:=h
def mO(h:P:=by simp [hget] at h1):P:=h
def yK(h:P:=by rw [hW];exact DP.wtake h (λq k hq=>hq.pfill _ _)):P:=h
def uN(h:P:=by simp only [aG,ae,bl];exact lxb hwi):P:=h
def uS(h:P:=by rw [jd];exact zk8 hp hq (.inl rfl)):P:=h
def u4(h:P:=by rw [tkV,U (by rw [n7];decide)];rfl):P:=h
def u5(h:P:=by have:=(h.ok.conn o ho).tasks;omega):P:=h
def qz(h:P:=by rw [hop];simp [isVal,zff]):P:=h
def u7(h:P:=by rintro r h' ⟨m,rfl,rfl⟩;rfl):P:=h
def lI(h:P:=by simpa using h):P:=h
def qK(h:P:=by simpa only [Rep] using J):P:=h
def mP(h:P:=by unfold fop;grind):P:=h
def yL(h:P:=by rw [Int.zero_add];exact zf (by omega) (by omega)):P:=h
def yM(h:P:=by rw [Int.add_zero];exact zf (by omega) (by omega)):P:=h
def qO(h:P:=by rw [sizeS,ae,zgw,zu];rfl):P:=h
def om(h:P:=by rw [hI];exact lxa):P:=h
def u9(h:P:=by rintro r h' ⟨m,_,rfl⟩;rfl):P:=h
def rh(h:P:=by cases vs;simpa using e1):P:=h
def rp(h:P:=by rw [<-J];simp [freeI]):P:=h
def yP(h:P:=by intro r hr;obtain ⟨q,_,rfl⟩:=ba.1 hr;rfl):P:=h
def zz(h:P:=by rw [hX,sayS,U (by rw [ae];omega)];simp [ansHd]):P:=h
def lK(h:P:=by cases x<;>rfl):P:=h
def mU(h:P:=by simp [go_sem]):P:=h
def Ah(h:P:=by rw [hP,tpc,U (by rw [hq];decide),aa hq,hR,hs]):P:=h
def Az(h:P:=by have:=h.ok.x.maps;simp only [xpOf,al];omega):P:=h
def mV(h:P:=by simp [RepRows]):P:=h
def rz(h:P:=by show (_:Nat)<=4;omega):P:=h
def rE(h:P:=by rw [im,zn,ze8,zby];rfl):P:=h
def va(h:P:=by rintro r h' ⟨_,rfl⟩;rfl):P:=h
def iU(h:P:=by rw [J]):P:=h
def oz(h:P:=by simp [RepDs,RepD]):P:=h
def mW(h:P:=by rw [zds];omega):P:=h
def vh(h:P:=by rw [hop];simp [isEff,hcal]):P:=h
def na(h:P:=by rw [zh,al,c8]):P:=h
def nd(h:P:=by simpa using gl):P:=h
def vz(h:P:=by simp only [l9];exact lxb hwi):P:=h
def AE(h:P:=by unfold zaU;dsimp only;rw [hcal];exact h):P:=h
def AF(h:P:=by simp [Value.ownBlock] at J;subst J;simp):P:=h
def vA(h:P:=by show ids.length<=i+1;omega):P:=h
def oK(h:P:=by simp [hget] at J):P:=h
def AH(h:P:=by have:=h2 rfl;simpa only [Rep] using this):P:=h
def AK(h:P:=by rw [hl];exact λq hq=>(zeh q hq).2.2.1):P:=h
def rF(h:P:=by simp [anvOk];omega):P:=h
def rH(h:P:=by rw [hX];exact zcg ..):P:=h
def nh(h:P:=by rw [hw1];rfl):P:=h
def nq(h:P:=by simp [cxOf]):P:=h
def AL(h:P:=by rintro e a' w' ⟨rfl,hr⟩;exact hr):P:=h
def rK(h:P:=by rw [bu];exact ze8 _):P:=h
def rN(h:P:=by have:=aQ fY;omega):P:=h
def vB(h:P:=by simpa only [Rep] using hr):P:=h
def oM(h:P:=by simp [Rep,Reps]):P:=h
def vC(h:P:=by simp [isVal,zff,hcal,isX]):P:=h
def vF(h:P:=by unfold trows;split<;>simp):P:=h
def vJ(h:P:=by rw [<-gd];exact jc.symm):P:=h
def AM(h:P:=by simp only [Reps] at oJ;simpa using oJ):P:=h
def oR(h:P:=by simpa using hs):P:=h
def Ba(h:P:=by rw [hf,b4,idxP,U (by simpa using hc)]):P:=h
def vK(h:P:=by simpa [Env.set] using hz):P:=h
def rP(h:P:=by unfold confG;grind):P:=h
def kO(h:P:=by cases hm):P:=h
def rQ(h:P:=by rw [zai hE.b0];rfl):P:=h
def rR(h:P:=by have:=aQ hc;omega):P:=h
def Bh(h:P:=by rw [(t2.fresh t1).1];exact SpR.nil):P:=h
def nr(h:P:=by simp [Reps]):P:=h
def Bk(h:P:=by rw [fw,List.countP_replicate];rfl):P:=h
def Bz(h:P:=by simp [stepG,stepG.exec,Frame.atR]):P:=h
def oV(h:P:=by simpa using h0):P:=h
def BK(h:P:=by rw [hI];simp only [zf6];exact lxa):P:=h
def pd(h:P:=by simpa using hk):P:=h
def BM(h:P:=by rw [zA (by omega) (by omega)];omega):P:=h
def vQ(h:P:=by rw [<-q9];exact zi hi):P:=h
def vR(h:P:=by unfold imgC;exact lxa):P:=h
def v8(h:P:=by simp only [ee,bG];omega):P:=h
def wh(h:P:=by simp only [aq,ax];omega):P:=h
def wz(h:P:=by rw [jy,hσ];split<;>rfl):P:=h
def wK(h:P:=by simp only [Reps];grind):P:=h
def lh(h:P:=by go_simp):P:=h
def rX(h:P:=by rw [zI hE.b0];rfl):P:=h
def BN(h:P:=by show (0:Int)<=4294967295;decide):P:=h
def Cd(h:P:=by intro e;rw [e] at jC;simp at jC):P:=h
def Cj(h:P:=by rw [hx];exact λh=>by cases h):P:=h
def iz(h:P:=by rfl):P:=h
def kP(h:P:=by rw [hm]):P:=h
def sv(h:P:=by simpa using h1):P:=h
def sw(h:P:=by simp at hc;omega):P:=h
def Ck(h:P:=by rw [J];exact λh=>by cases h):P:=h
def sG(h:P:=by rw [hD,ak];omega):P:=h
def sH(h:P:=by rw [hb];decide):P:=h
def sK(h:P:=by rw [jM];decide):P:=h
def wP(h:P:=by rw [zh,al,c8];omega):P:=h
def wX(h:P:=by rw [e] at jc;cases jc):P:=h
def lj(h:P:=by rw [h]):P:=h
def w8(h:P:=by simp only [aC];omega):P:=h
def s6(h:P:=by simpa using hl):P:=h
def w9(h:P:=by simp only [ae];omega):P:=h
def s7(h:P:=by rw [al];omega):P:=h
def s8(h:P:=by rw [ae];omega):P:=h
def th(h:P:=by rwa [<-c.M]):P:=h
def nz(h:P:=by simp [hi]):P:=h
def xc(h:P:=by simp only [RepRows]):P:=h
def xh(h:P:=by unfold GoesOn;grind):P:=h
def xz(h:P:=by rw [<-hl];exact J):P:=h
def nB(h:P:=by simp [zh]):P:=h
def xK(h:P:=by rw [sh.size];grind):P:=h
def xP(h:P:=by rw [fV];simp;omega):P:=h
def xQ(h:P:=by rw [zai hE.b1];rfl):P:=h
def xR(h:P:=by rw [zai hE.b2];rfl):P:=h
def lS(h:P:=by rw [hI]):P:=h
def tz(h:P:=by cases n<;>rfl):P:=h
def xS(h:P:=by rwa [hM2] at hb):P:=h
def pg(h:P:=by simp [zbz]):P:=h
def pz(h:P:=by simp [hj]):P:=h
def nE(h:P:=by rw [hE']):P:=h
def tD(h:P:=by rw [kb];simp):P:=h
def tE(h:P:=by simp [tfail]):P:=h
def Cl(h:P:=by simp only [go_sem,aeq,aeq.aeqF,simprocAttr];all_goals exact lzy):P:=h
def Cp(h:P:=by rintro r h' ⟨rfl,rfl⟩;all_goals exact lzy):P:=h
def Cw(h:P:=by
 refine zj noTab (zb _) (λK hK=>?_);simp only [go_sem,aeq,aeq.aeqF,simprocAttr]
 (first|(refine hK _ ?_;clear hK K)|(clear hK K;refine hK _ ?_;clear hK K)|(clear hK K;clear hK K;refine hK _ ?_;clear hK K)|(clear hK K;clear hK K;clear hK K;refine hK _ ?_;clear hK K)|(clear hK K;clear hK K;clear hK K;clear hK K;refine hK _ ?_;clear hK K))
 all_goals exact lzy):P:=h
def Cy(h:P:=by refine zj noTab (zb _) (λK hK=>?_);simp only [go_sem,simprocAttr];refine hK _ ?_;clear hK K;all_goals exact lzy):P:=h
def Cz(h:P:=by rw [hop] at hc;have n1:∀x,o.op= .move x->False:=fU;have n2:∀x,o.op= .assign x->False:=fU;have n3:∀x y z,o.op= .pick x y z->False:=fU;have n4:∀c,o.op= .call c->False:=fU;all_goals exact lzy):P:=h
def CK(h:P:=by
 obtain ⟨k,rfl⟩:∃k:Nat,c=k:=⟨c.toNat,fT⟩
 obtain ⟨o,ho⟩:∃o,v.conns[k]?=some o:=⟨_,bk fT⟩
 have hn:(if (k:Int)<0 then none else v.conns[(k:Int).toNat]?)=some o:=mh;all_goals exact lzy):P:=h
def CO(h:P:=by have hwi:=zo (i:=i) fT;all_goals exact lzy):P:=h
def C5(h:P:=by refine ⟨true,_,_,_,hR,fU,fU,true,hG,?_⟩;intro s' J ab lN E a w K Q hs hK;rw [an] at J;have lp:¬isVal cx.P (.call c)=true:=mI;have mi:zbG cx.P s' c=some (f,args,vc):=pK;rw [zdt hs.slots ab];refine zhN hs hd ?_;unfold aop1;rw [an];simp only [U lp,mi];all_goals exact lzy):P:=h
def C9(h:P:=by simp only [Instr.indexAt,asIntOf,ai,ar,ah,run_underlying hu,Instr.sureAddr];simp only [h0,h1,bA,av,ai,zQ jB,ah,ar,Addr.add_none];all_goals exact lzy):P:=h
def Dd(h:P:=by refine' walkW fx (za zq <| za zN <| za zt <| za zZ <| za zP <| za zag <| za zO <| za zy <| za zaM <| za zM <| za zG <| zb _);all_goals exact lzy):P:=h
def De(h:P:=by
 (have tk:=za zN <| za zaz <| za zM <| za zG <| zb Tryz.prog);repeat' (first|((first|(refine sa ?_;intro K hK)|refine sb ?_);simp only [go_sem,aeq,aeq.aeqF,simprocAttr,hI,rdA,results251])|refine zaC (λK hK=>?_)|refine sc ?_|refine za1 rfl (λhc=>?_) (λhc=>?_)|(refine hK _ ?_;clear hK K)|((first|refine (show AS.le _ _ from ?_)|refine (show leH _ _ from ?_)|refine (show inH _ _ from ?_));simp only [AS.le,leT,leH,ze,AsgK,AV.le,AV.leL,AObj.le,inH,idsT,idsH,AV.ids,AV.idsL,AV.idsR,AObj.ids,lk,hget,go_sem,aeq,aeq.aeqF,simprocAttr,hI,rdA])|refine λ(r2:Rnd _)=>?_|with_reducible refine And.intro ?_ ?_|exact ‹_<+:_› |omega|assumption|clear hK K)
 all_goals exact lzy):P:=h
def Dh(h:P:=by refine' walkW fx (za zcd <| za zef <| za zc2 <| za zt <| za zZ <| za zq <| za zcx <| za zdp <| zb _);all_goals exact lzy):P:=h
def Di(h:P:=by obtain ⟨i,hi,hf⟩:=q;simp only at hi hf |-;all_goals exact lzy):P:=h
def Dj(h:P:=by refine zj noTab (zb _) (λK hK=>?_);simp only [go_sem,aj,aU,aV,aW,aw,aeq,aeq.aeqF,simprocAttr];refine hK _ ?_;clear hK K;all_goals exact lzy):P:=h
def Dk(h:P:=by simp only [RepObj] at this |-;all_goals exact lzy):P:=h
def Dl(h:P:=by obtain ⟨i,hi⟩:=q;simp only at hi |-;all_goals exact lzy):P:=h
def Dm(h:P:=by
 rintro r h' ⟨_,rfl⟩ i hi;revert hi;simp only [hget];repeat' split
 all_goals exact lzy):P:=h
def Dn(h:P:=by
 have J:((plook d p 1).2 !=0)=false:=by simpa using he
 have gV:=zf9 h he;have ir:zF d p=rootT (plook d p 1).1:=by rw [zF,U gp]
 obtain ⟨S,hS⟩:∃S,S=(plook d p 1).1:=⟨_,rfl⟩
 rw [<-hS] at gV ir;have hr:=zlW S;have a7:List.take S.length S=S:=aL;have nj:=zga (s:=S.drop 4) (z:=2) 2 rfl fT fT gG;have lD:=zga (s:=S.drop 6) (z:=4) 4 rfl fT fT gG;have iu:IntKind.i64.wrap (zdn S).l1=(zdn S).l1:=zf fT fT;have lY:IntKind.u32.wrap (zdn S).next=(zdn S).next:=zbT fT fT;simp only [zdn] at iu lY hr;have oC:(List.take 10 S).length<=64:=hU;all_goals exact lzy):P:=h
def Dp(h:P:=by
 revert hi;simp only [hget];repeat' split
 all_goals exact lzy):P:=h
def Dq(h:P:=by refine (zdv (i:=0) (j:=1) (o:=0) (T:=180) (cs:= [if i=0 then .d .nilp else .tp 0 0,.bsl 1 b.length]) (xs:=b) rfl (by by_cases h0:i=0<;>simp [h0]) rfl rfl rfl zge fT).mono ?_;all_goals exact lzy):P:=h
def Dr(h:P:=by simp only [aB,aJ] at hc;obtain ⟨rfl,rfl⟩:=hc;have hv:isVal (atCx cx nm).P (.call c)=true:=vC;refine ⟨hne vh,λk hk R hR=>?_⟩;have h2:=h (λg v _=>R g v k) hR;unfold fop at h2 |-;rw [hop] at h2 |-;dsimp only at h2 |-;rw [aa hv] at h2 |-;all_goals exact lzy):P:=h
def Ds(h:P:=by refine' zc fx;all_goals exact lzy):P:=h
def Dt(h:P:=by refine' walkR fx (za zq <| za zN <| za zt <| za zZ <| za zP <| za zag <| za zO <| za zy <| za zaM <| za zM <| za zG <| zb _);all_goals exact lzy):P:=h
def Du(h:P:=by
 refine (mq.own rfl rfl gb u9).mono ?_;rintro r h' ⟨h1,⟨m,rfl,rfl⟩,rfl⟩;obtain ⟨post,im⟩:∃post,post=((v.conns.drop (k+1)).map cnD).flatten.map AV.d++List.replicate m .any:=⟨_,rfl⟩
 rw [<-im];have iF:AV.idsL post= []:=rE;all_goals exact lzy):P:=h
def Dv(h:P:=by
 rw [hn] at J;simp only [aw] at J;have iw:=ay ho;have b9:=h.ok.conn o iw;have mq:=zi1 v k o ho fT oh;obtain ⟨pre,bu⟩:∃pre,pre=((v.conns.take k).map cnD).flatten.map AV.d:=⟨_,rfl⟩
 rw [<-bu] at mq;have iE:AV.idsL pre= []:=rK;all_goals exact lzy):P:=h
def Dw(h:P:=by
 rw [hn] at hV;simp only [aw] at hV;have iw:=ay ho;have h:=hq.2 (fP iw);have b9:=h.ok.conn o iw;have jq:(decide (0<=(k:Int))&&decide ((k:Int)<(v.conns.length:Int)))=true:=wh;have gB:k*8=(zad (v.conns.take k)).length:=nL;have J:(v.conns.map cnD).getD k []= [.int .i64 o.n.phase,.str o.n.buf,.bool o.n.brief,.bool o.n.chunks,.sl 1 (o.n.metas.map u32D),.sl 12 (o.tasks.map tskD),.str o.out,.bool o.gone]:=by rw [aN,cT,ho];rfl
 all_goals exact lzy):P:=h
def Dx(h:P:=by obtain ⟨rfl,rfl⟩:=hc;refine ⟨hne kK,λk hk R hR=>?_⟩;have h2:=h (λg v _=>R g v k) hR;have hv:isVal (atCx cx nm).P o.op=true:=kK;rw [zax n1 n2 n3 n4,aa hv,hop] at h2;rw [zax n1 n2 n3 n4,aa hv,hop];all_goals exact lzy):P:=h
def Dy(h:P:=by
 have J:(decide (size<1)||decide (8<size))=false:=by simpa using h
 obtain ⟨z,rfl,rn⟩:∃z:Nat,size=(z:Int)/\z<=8:=⟨size.toNat,fT,fT⟩
 all_goals exact lzy):P:=h
def Dz(h:P:=by
 rw [aa hb] at hg;rw [kM] at hb;have o7:IntKind.u64.wrap ((i+1:Nat):Int)=((i+1:Nat):Int):=zA fT fT;have gO:IntKind.u32.wrap ((i+1:Nat):Int)=((i+1:Nat):Int):=zbT fT fT;have gB:=zd0 ((i+1:Nat):Int);obtain ⟨X,hX⟩:∃X,X=sayS k 4 (putS8 ((i+1:Nat):Int) 4++m):=⟨_,rfl⟩
 have mG:X.length<=4116:=rH;rw [<-hX] at hg;refine' walkW (zr J an hb hwi o7 (zp gO hX.symm gF)) (za zcP <| za zaf <| za zH <| zb _);all_goals exact lzy):P:=h
def DA(h:P:=by
 refine ((zsk v k o ho fT (λo ho=>u5)).own rfl rfl gb u7).mono ?_;rintro r h' ⟨h1,⟨m,rfl,rfl⟩,rfl⟩;obtain ⟨pre,bu⟩:∃pre,pre=zad (v.conns.take k):=⟨_,rfl⟩
 obtain ⟨post,im⟩:∃post,post=zad (v.conns.drop (k+1))++List.replicate m .any:=⟨_,rfl⟩
 rw [<-bu,<-im];rw [<-bu] at gB;have iE:AV.idsL pre= []:=by rw [bu];exact zbL
 have iF:AV.idsL post= []:=by rw [im,zn,zbL,zby];rfl
 all_goals exact lzy):P:=h
def DB(h:P:=by refine fbod func193 ntmps193 (λbase=>?_);all_goals exact lzy):P:=h
def DC(h:P:=by refine ⟨_,vQ,q9.symm,λR hR=>?_⟩;rw [zax n1 n2 n3 n4,U hv,an];refine ⟨q7.symm ▸ rfl,hdt,?_⟩;unfold aeff;dsimp only;simp only [ao];refine ⟨q1,q2,q3,q4,q5,?_⟩;rw [hx];dsimp only;rw [hk,hi];all_goals exact lzy):P:=h
def DD(h:P:=by simp [hget] at ho;subst ho;simp only [RepObj];all_goals exact lzy):P:=h
def DE(h:P:=by
 rw [J] at hb
 (have tk:=zb Tryz.prog);repeat' (first|((first|(refine sa ?_;intro K hK)|refine sb ?_);simp only [go_sem,aeq,aeq.aeqF,simprocAttr,dmapA,zmd,hb,hl,results510])|refine zaC (λK hK=>?_)|refine sc ?_|refine za1 rfl (λhc=>?_) (λhc=>?_)|(refine hK _ ?_;clear hK K)|with_reducible refine And.intro ?_ ?_|omega|assumption|clear hK K)
 all_goals exact lzy):P:=h
def DG(h:P:=by simp only [RepObj,hO] at this |-;all_goals exact lzy):P:=h
def DH(h:P:=by obtain ⟨b,d,T,fz,h1,h2,h3,h4⟩:=this;exact ⟨b,d,T,fz,h1,fU,Reps.step fU fU _ _ (λj _=>GoesOn.refl E h j) h3,h4⟩;all_goals exact lzy):P:=h
def DI(h:P:=by refine zaa _ ih ?_;rintro e a2 w2 ⟨rfl,hr⟩;exact ⟨rfl,hr.trans et⟩;all_goals exact lzy):P:=h
def DJ(h:P:=by obtain ⟨b,d,T,fz,h1,h2,h3,h4⟩:=this;all_goals exact lzy):P:=h
def DK(h:P:=by obtain ⟨b,c,T,fz,g1,g2,g3,g4⟩:=this;all_goals exact lzy):P:=h
def DL(h:P:=by
 refine re _ ?_;clear re K5;refine zaZ noTab (zb _) ?_;simp only [go_sem,aj,aU,aV,aW,aw,aeq,aeq.aeqF,simprocAttr];refine ⟨⟨k+1,fT⟩,?_,gh⟩;rw [hw];simp only [AS.le,leT,leH,ze,AsgK,AV.le,AV.leL,AObj.le,inH,idsT,idsH,AV.ids,AV.idsL,AV.idsR,AObj.ids,lk,hget,go_sem,aj,aU,aV,aW,aw,aeq,aeq.aeqF,simprocAttr];try rfl
 all_goals exact lzy):P:=h
def DM(h:P:=by obtain ⟨rfl,rfl⟩:=hc;refine ⟨rfl,λk hk R hR=>?_⟩;rw [zax n1 n2 n3 n4,U hv,hop];refine ⟨hG,hdt,?_⟩;all_goals exact lzy):P:=h
def DN(h:P:=by rw [an] at J;simp only [foot] at J;all_goals exact lzy):P:=h
def DO(h:P:=by obtain ⟨⟨i,q⟩,hi,hq,gq⟩:=q;simp only at hi hq gq |-;have ry:=PlanOk.of hq;obtain ⟨sY,sZ,_⟩:=zbk hq;all_goals exact lzy):P:=h
def DQ(h:P:=by have hb:decide (B<=A)=false:=ag iP;rw [U iP] at bo;have lC:IntKind.i64.wrap (A - off)=A - off:=zf fT fT;have nW:IntKind.i64.wrap (B - off)=B - off:=zf fT fT;have rL:IntKind.i64.wrap (A - (i:Int)*64)=A - i*64:=zf fT fT;have jU:((s.take (B - off).toNat).drop (A - off).toNat).length<=9223372036854775807:=gh;all_goals exact lzy):P:=h
def DR(h:P:=by
 have gW:=t2.step v.x o.n.metas b9.ms.1;rw [<-hT] at gW;have ef:=zmm (x:=v.x) (t:=t) oX Bh;rw [<-hT] at ef;have wH:=(gW.ts (t3.step g2 g1) ef).1;obtain ⟨R,hR⟩:∃R,R=zgV T.2 o.n.chunks:=⟨_,rfl⟩
 have l8:=zi3 T.2 o.n.chunks;rw [<-hR] at l8;have jU:=gW.spans;have o9:=h.out o iw;unfold OutOk at o9;all_goals exact lzy):P:=h
def DS(h:P:=by
 obtain ⟨A,hA⟩:∃A,A=max off ((i:Int)*64):=⟨_,rfl⟩
 obtain ⟨B,hB⟩:∃B,B=min (off+(s.length:Int)) (((i:Int)+1)*64):=⟨_,rfl⟩
 have pJ:imax off ((i:Int)*64)=A:=by rw [hA];unfold imax;split<;>omega
 have pL:imin (off+(s.length:Int)) (((i:Int)+1)*64)=B:=by rw [hB];unfold imin;split<;>omega
 all_goals exact lzy):P:=h
def DT(h:P:=by
 have hb:((rget d p k).2 !=0)=false:=by simpa using he
 obtain ⟨gk,gx⟩:=zqV he;have ab:IntKind.i64.wrap (0 - (rget d p k).1)= -(rget d p k).1:=gP;have a6:IntKind.i64.wrap (65535 - (rget d p k).1)=65535 - (rget d p k).1:=zf fT fT;by_cases hc:dt< -(rget d p k).1\/65535 - (rget d p k).1<dt;all_goals exact lzy):P:=h
def DU(h:P:=by
 have gC:=h.ok;have bu:=h.ok.c0;have bo:=h.ok.c1;have jJ:=h.ok.f0;have qB:=h.ok.f1;have mD:=h.err0;have et:=h.err1;have gw:=h.data;have r7:(rdata t.q.frm t.data).length<=9223372036854775807:=by simp only [rdata,ae,zu];omega
 obtain ⟨Z,J⟩:∃Z,Z=zgV t ch:=⟨_,rfl⟩
 rw [<-J];unfold zgV at J;all_goals exact lzy):P:=h
def DV(h:P:=by simp only [Rep] at J |-;all_goals exact lzy):P:=h
def DW(h:P:=by rename_i hw;rw [U hw];refine ⟨this.1,?_⟩;obtain ⟨E1,s1,hk,ab,et⟩:=this.2;all_goals exact lzy):P:=h
def DX(h:P:=by
 obtain ⟨S,hS⟩:∃S,S=zdg p.ctx p.list:=⟨_,rfl⟩
 have nS:=zkM (c:=p.ctx) (l:=p.list);rw [<-hS] at hf nS;have c6:=zmc (dn:=(L.drop (i+1)).isEmpty) (k:=5) (c:=t.q.cookie) (s:=S.1);obtain ⟨C,hC⟩:∃C,C=zbx (L.drop (i+1)).isEmpty 5 t.q.cookie S.1:=⟨_,rfl⟩
 rw [<-hC] at hf c6;all_goals exact lzy):P:=h
def DY(h:P:=by refine ⟨5,.buf 5 w.out,.buf 5 gone,[(3,.tvar 182 (nwC w))],6,.d (.str w.out),rfl,⟨rfl,rfl,trivial⟩,nw_cl gC,⟨rfl,trivial⟩,znz w gC,?_⟩;all_goals exact lzy):P:=h
def DZ(h:P:=by
 have J:(decide (dt< -(rget d p k).1)||decide (65535 - (rget d p k).1<dt))=false:=by simpa using hc
 have gO:IntKind.i64.wrap ((rget d p k).1+dt)=(rget d p k).1+dt:=zf fT fT;have gX:IntKind.u64.wrap ((rget d p k).1+dt)=(rget d p k).1+dt:=zA fT fT;have gB:=zu ((rget d p k).1+dt).toNat 2;all_goals exact lzy):P:=h
def D0(h:P:=by have ou:IntKind.i64.wrap (rget d p k).1=(rget d p k).1:=zf fT fT;rw [ir] at ou;simp only at ou;have ru:((plook d p (87+k / 32)).1.drop (2*(k % 32)).toNat).length<=64:=gG;have a7:List.take (plook d p (87+k / 32)).1.length (plook d p (87+k / 32)).1=(plook d p (87+k / 32)).1:=aL;all_goals exact lzy):P:=h
def D2(h:P:=by simp [Builtin.len_,gW,ha,run_underlying (zY J),goInt,Rep,RepD];all_goals exact lzy):P:=h
def D3(h:P:=by rename_i hw;rw [aa hw];refine za4 this ?_;rintro a1 w1 ⟨E1,s1,hk,ab,et⟩;all_goals exact lzy):P:=h
def D4(h:P:=by rw [jd,kv];refine aw_le ⟨[(14,true,rqA (reqRd c0.n.buf).1),(15,true,.d (.int .i64 (reqRd c0.n.buf).2.2)),(1,true,.vp 60 0),(2,true,.vp 61 0)],tkH (xpOf s.x) { s with o:=c0,tv:= .osl 34 12 c0.tasks.length 0 c0.tasks.length,ts:=c0.tasks.map tskD },some []⟩ tF ?_;all_goals exact lzy):P:=h
def D5(h:P:=by refine ⟨c.sat J (λo ho=>?_),c.evo (.inr (zbg _ _)),?_⟩;all_goals exact lzy):P:=h
def D6(h:P:=by
 rcases this with h0|⟨b,d,T,fz,h1,h2,h3,h4,h5,h6⟩
 all_goals exact lzy):P:=h
def D7(h:P:=by have iT:pre.length+1+1=pre.length+2:=rfl;have ko:pre.length+2+1=pre.length+3:=rfl;have mL:pre.length+3+1=pre.length+4:=rfl;have sj:pre.length+4+1=pre.length+5:=rfl;have nA:pre.length+5+1=pre.length+6:=rfl;have sk:pre.length+6+1=pre.length+7:=rfl;unfold imgC rowO;all_goals exact lzy):P:=h
def D8(h:P:=by rename_i G hg;simp only [wpOpsIn,hi];have:=zhO ht (Q:=λ_ _ _=>False) hs hg h;split at this;all_goals exact lzy):P:=h
def D9(h:P:=by
 have qn:=(XOk.xp h.ok.x)
 have hex:=h.ok.x.ex;have jn:0<=o.n.phase:=by have:=b9.phase;omega
 have c8:=b9.buf;obtain ⟨F,hF⟩:∃F,F=zba o.n (xpOf v.x) s:=⟨_,rfl⟩
 have j0:=zi5 (n:=o.n) (xctxs qn).1 s;have o9:=h.out o iw;unfold OutOk at o9;rw [<-hF] at j0;all_goals exact lzy):P:=h
def Ea(h:P:=by refine zD (λi=>decide (i<40)) ?_;all_goals exact lzy):P:=h
def Eb(h:P:=by
 rcases this with g|⟨b,c,T,fz,g1,g2,g3,g4,g5,g6⟩
 all_goals exact lzy):P:=h
def Ec(h:P:=by
 obtain ⟨G,hG⟩:∃G:List (List AV)->Prop,G=λ_=>True:=⟨_,rfl⟩
 all_goals exact lzy):P:=h
def Ed(h:P:=by
 rw [U (by rw [h2];decide)] at eo;simp only [go_sem,aeq,aeq.aeqF,simprocAttr,h2];obtain ⟨C,hC⟩:∃C,C=ctxs s.x.names:=⟨_,rfl⟩
 have qT:∀c∈C,Lib.indexByte c 58=4/\(c.take 5=baseC\/c.take 5=qemuC):=λc hc=>ztw (hC ▸ hc);rw [<-hC] at ny eo;all_goals exact lzy):P:=h
def Ee(h:P:=by refine' walkW hb (za zaA <| za zaf <| za zaS <| za zap <| za zaG <| za zaF <| zb _);rw [J];all_goals exact lzy):P:=h
def Ef(h:P:=by refine bod func241 ntmps241 (λbase=>?_);refine' walkW (zg hA.symm o5) (za zgj <| zb _);all_goals exact lzy):P:=h
def Eg(h:P:=by have hg:=hi i jz;simp only [GoesOn,h1] at hg;all_goals exact lzy):P:=h
def Eh(h:P:=by
 have a7:=t2.ok t3;have me:o.n.metas.length<=1000:=by have:=b9.ms.1;omega
 have oX:∀m∈o.n.metas,0<=m/\m<4294967296:=λm hm=>by have:=b9.ms.2 m hm;omega
 have mH:j<o.tasks.length:=fT;have uA:(o.tasks.map tskD).length=o.tasks.length:=al ..;all_goals exact lzy):P:=h
def Ei(h:P:=by have ab:IntKind.u64.wrap t.l1=t.l1:=zA h0 fT;have a6:IntKind.u64.wrap t.next=t.next:=zA h2 fT;have jv:=zu t.l1.toNat 2;have js:=zu t.next.toNat 4;have qt:(67:UInt8)::79::70::82::putN t.l1.toNat 2++putN t.next.toNat 4=zeE t:=rfl;have qu:=zjp t;all_goals exact lzy):P:=h
def Ej(h:P:=by
 have h4:¬B.2.1.length<4:=λh4=>by rw [ic,aa h4] at fY;cases fY
 rw [U h4] at ic;obtain ⟨n,hn⟩:∃n,n=numAt B.2.1 0 4:=⟨_,rfl⟩
 rw [<-hn] at ic J;subst ic;simp only at nV |-;have jr:n<=1000:=fT;rw [U fT] at J;refine zaI 9 1 rfl ?_;all_goals exact lzy):P:=h
def Ek(h:P:=by have sQ:putS8 t.seq 8=putN t.seq.toNat 8:=j8;have kY:putS8 (t.plan.targets.length:Int) 2=putN t.plan.targets.length 2:=j8;have lC:IntKind.i64.wrap (65535 - (t.plan.targets.length:Int))=((65535 - t.plan.targets.length:Nat):Int):=gP;all_goals exact lzy):P:=h
def El(h:P:=by
 have hX:=h.mark guest;obtain ⟨X,oI⟩:∃X,X=cmark x guest:=⟨_,rfl⟩
 rw [<-oI] at hX iC;have iZ:DP X.disk p0:=⟨hX.disk,zch⟩
 have oG:=hX.host;have l4:=hX.guest;have mw:=hX.ok;have qw:=hX.disk;have rG:=hX.seq0;have tt:=hX.seq1;all_goals exact lzy):P:=h
def Em(h:P:=by simp only [zbD] at he;have e1:=zBC he;have e2:∀f:Nat->TypeId,(parts.toList.map λp=>(p.1,((s.ev p.2).2.tag P (f p.1))))=parts.toList.map λp=>(p.1,((s'.ev p.2).2.tag P (f p.1))):=λf=>zBD he f;simp only [aeff] at h |-;all_goals exact lzy):P:=h
def En(h:P:=by simp only [go_sem,aeq,aeq.aeqF,simprocAttr,h2];all_goals exact lzy):P:=h
def Eo(h:P:=by obtain ⟨dst,op,ot,pos,after,guard⟩:=o;all_goals exact lzy):P:=h
def Ep(h:P:=by obtain ⟨s,fV⟩:=zaD (l:=p.texts) (i:=i) fT;have ij:=zbB (g:=strD) fV;simp only [intD] at ab;simp only [strD] at ij;all_goals exact lzy):P:=h
def Er(h:P:=by refine zaZ noTab (zb _) ?_;simp only [go_sem,simprocAttr];have hw:IntKind.i64.wrap ((i:Int)+1)=((i+1:Nat):Int):=iM;all_goals exact lzy):P:=h
def Es(h:P:=by
 rw [hb,U gb] at hZ;obtain ⟨R,hR⟩:∃R,R=zF x.disk p0:=⟨_,rfl⟩
 rw [<-hR] at hZ;obtain ⟨l,hl⟩:∃l,l=cutsL a n:=⟨_,rfl⟩
 have gF:l.length<=65536:=mF;have ir:∀q∈l,q.2.1+q.2.2<=128:=AK;rw [<-hl] at hZ;all_goals exact lzy):P:=h
def Et(h:P:=by
 have hset:hset s.h i (.arr (ty P e).size (rput xs off (List.replicate 0 zs)))=s.h:=by rw [List.replicate_zero,zmy];exact ziF hi
 rw [hset] at hk;refine .inl ⟨_,_,hexec W ?_,E,s.h,_,hk,hs,Evo.refl _ _ _ _,oM⟩;rw [ex];all_goals exact lzy):P:=h
def Eu(h:P:=by exact ⟨⟨i+1,fT⟩,lxb (lan hwi (lan e8 (lan j9 ae))),gh⟩;all_goals exact lzy):P:=h
def Ev(h:P:=by simp only [fresh,top,hget, ↓reduceIte];all_goals exact lzy):P:=h
def Ew(h:P:=by
 have hu:=zY ht;obtain ⟨de,hde⟩:=zcp he;rw [zeB hu fZ];simp only [Rep] at hx |-;obtain ⟨-,xs,g1,g2,g3,g4⟩:=hx;have hn:xs.length=n:=by simpa [AS.cur,g1] using hc
 have hob:=hp.heap i _ g1;simp only [RepObj] at hob;all_goals exact lzy):P:=h
def Ex(h:P:=by simp only [RepObj,hO2] at hr |-;obtain ⟨b,c,T,fz,g1,g2,g3,g4⟩:=hr;exact ⟨b,c,T,fz,g1,(hlt b g1).trans g2,Reps.step hX2 (λb hb _=>hk1 b hb) _ _ (λj hj=>hgoI j (hidsI j hj)) (Reps.le _ _ _ hle g3),g4⟩;all_goals exact lzy):P:=h
def Ey(h:P:=by obtain ⟨⟨i,s⟩,hi,hs,hf⟩:=q;simp only at hi hs hf |-;all_goals exact lzy):P:=h
def Ez(h:P:=by have sR:putS8 ((65535 - t.plan.targets.length:Nat):Int) 2=putN (65535 - t.plan.targets.length) 2:=j8;have kC:=zu t.seq.toNat 8;have js:=zu t.plan.targets.length 2;have qj:=zu (65535 - t.plan.targets.length) 2;all_goals exact lzy):P:=h
def EA(h:P:=by have hv:¬isVal (atCx cx nm).P o.op=true:=qz;rw [zax n1 n2 n3 n4,U hv,hop] at h0;obtain ⟨hG,hdt,h1⟩:=h0;all_goals exact lzy):P:=h
def EB(h:P:=by
 obtain ⟨j,rfl⟩:∃j:Nat,i=j:=⟨i.toNat,fT⟩
 obtain ⟨t,ht⟩:∃t,o.tasks[j]?=some t:=⟨_,bk fT⟩
 have iT:(if (j:Int)<0 then none else o.tasks[(j:Int).toNat]?)=some t:=by rw [U fT,aw];exact ht
 all_goals exact lzy):P:=h
def EC(h:P:=by
 have oJ:pfit P.1=true:=by rw [hP];exact (iZ.ppoint _ _ _).p
 obtain ⟨D,hD⟩:∃D,D=cdone X P.1:=⟨_,rfl⟩
 rw [wipe2,<-hR,<-hY,<-hP,<-hD] at iC;by_cases hr:guest<0\/x.geom.guest<=guest;all_goals exact lzy):P:=h
def ED(h:P:=by have jS:IntKind.i64.wrap (128 - (s.length:Int))=128 - s.length:=zf fT fT;all_goals exact lzy):P:=h
def EE(h:P:=by exact ⟨E4,_,_,_,pb s4.h mT (λ_ h=>h) (λi h=>⟨h,GoesOn.refl E4 _ i⟩) (hJ _ _ _ hj),iA,hj⟩;all_goals exact lzy):P:=h
def EF(h:P:=by
 obtain ⟨⟨i,l,r⟩,hi,hl,hr,hg⟩:=q;simp only at hi hl hr hg |-;have gF:(l.map strD).length=i:=by rw [al,hl]
 have hw:IntKind.u64.wrap ((i:Int)+1)=((i+1:Nat):Int):=BM;rcases aO i n with b3|gU;all_goals exact lzy):P:=h
def EG(h:P:=by
 obtain ⟨l,hl⟩:∃l,l=cutsL a n:=⟨_,rfl⟩
 all_goals exact lzy):P:=h
def EH(h:P:=by
 have hb:((plook d p (87+k / 32)).2 !=0)=false:=by simpa using he
 have gV:=zf9 h he;have gW:=zga (s:=((plook d p (87+k / 32)).1.drop (2*(k % 32)).toNat)) (z:=2) 2 rfl fT fT gG;have hr:=zhj d p k;all_goals exact lzy):P:=h
def EI(h:P:=by refine ⟨λ_ R hR=>nv k R jK gT gT gT gT ?_ hR,λe=>gN⟩;rw [an];all_goals exact lzy):P:=h
def EJ(h:P:=by refine bod func97 ntmps97 (λbase=>?_);refine' zgu (ownsL [2000174]) (zp hO.symm gE ji) (za zfr <| zb _);refine ⟨nwH u,6,_,rfl,⟨?_,?_,trivial⟩,nw_cl o8,⟨rfl,trivial⟩,zma u,?_⟩;all_goals exact lzy):P:=h
def EK(h:P:=by simp only [RepObj,hO,hC] at this |-;all_goals exact lzy):P:=h
def EL(h:P:=by refine za1 rfl (λhc=>?_) (λhc=>?_);all_goals exact lzy):P:=h
def EM(h:P:=by have pq:IntKind.i64.wrap (m*64)=m*64:=zf fT fT;have gf:=zoB (b:=d.data) hq;rw [<-hb] at gf;have gF:(lay b (m*64).toNat s).length=b.length:=zqD fT;have ji:(zh b).length=d.data.length:=na;all_goals exact lzy):P:=h
def EN(h:P:=by have h1:=h.dok;have h2:=h.pok;have h3:=h.plen;all_goals exact lzy):P:=h
def EO(h:P:=by
 obtain ⟨⟨i,t,ids⟩,hi,ht,gL,hg⟩:=q;simp only at hi ht gL hg |-;have gF:(ids.map u32D).length=ids.length:=al ..;rcases zw strD C i hi with ⟨m,hq,b5,J,an,b4,a7⟩|⟨ao,J⟩
 all_goals exact lzy):P:=h
def EP(h:P:=by obtain ⟨h0,h1⟩:=hp;all_goals exact lzy):P:=h
def ER(h:P:=by have tJ:=aQ (by assumption:decide (4096<(numAt s 24 4:Int))=false);all_goals exact lzy):P:=h
def ES(h:P:=by have ab:IntKind.i64.wrap 1=1:=gb;have a6:IntKind.i64.wrap 2=2:=gb;all_goals exact lzy):P:=h
def ET(h:P:=by refine fbod func117 ntmps117 (λbase=>?_);all_goals exact lzy):P:=h
def EU(h:P:=by intro E w vs J;simp only [Reps,Rep,RepD] at J;obtain ⟨v1,r1,e1,rfl,v2,r2,rfl,rfl,rfl⟩:=J;all_goals exact lzy):P:=h
def EV(h:P:=by
 have oC:((x.maps.take i).map (mset g)).length=i:=gh;have nm:((x.maps.take i).map (mset g)++x.maps.drop i)[i]?=some m:=by rw [dN fT,oC,cu,eX,cJ,hq]
 have an:=zbB (g:=dmapD) nm;all_goals exact lzy):P:=h
def EW(h:P:=by simp only [au,aX] at J;obtain ⟨hi,J⟩:=J;all_goals exact lzy):P:=h
def EX(h:P:=by
 obtain ⟨E1,nO⟩:∃E1,E1=E.set (fresh cx.fl s.h) none 0:=⟨_,rfl⟩
 rw [<-nO] at J cc;all_goals exact lzy):P:=h
def EY(h:P:=by
 have J:(decide (size<1)||decide (8<size))=true:=by simpa using h
 all_goals exact lzy):P:=h
def EZ(h:P:=by refine ⟨rfl,λk R hR=>nv k R jK fU fU fU fU ?_ hR⟩;rw [an];all_goals exact lzy):P:=h
def E7(h:P:=by refine' walkW fx (za zaA <| za zaf <| za zaS <| za zap <| za zaG <| za zaF <| zb _);rw [J];all_goals exact lzy):P:=h
def E8(h:P:=by have hcl:=Reps.length g3;refine .inr ⟨_,?_,E,_,.any,hk,q1,q2,by simp [Rep]⟩;simp only [execOp,hv,Instr.storeAt,Instr.sureAddr,ai,ar,ah];rw [zgD ht g2 g4 hvs fU h1c];rfl;all_goals exact lzy):P:=h
def E9(h:P:=by refine' walkW (zr J e2 e3 e5 e6 (zp hw e7 e8)) (za zam <| zb _);all_goals exact lzy):P:=h
def Fa(h:P:=by
 simp only [Reps,Rep,RepD] at hr;obtain ⟨v0,r0,e0,rfl,v1,r1,rfl,⟨a,b,rfl,ha,hb⟩,rfl⟩:=hr;obtain rfl:a= #[]:=by simpa using ha
 obtain rfl:b= #[]:=by simpa using hb
 all_goals exact lzy):P:=h
def Fb(h:P:=by
 have hm:=hn m (ay hq);have e8:(ctxs (names.take (i+1))).map strD=(ctxs (names.take i)).map strD++ [[.str (zl6++m)]]:=by rw [a7];simp [ctxs,strD]
 refine' zc (zp J ab c6);all_goals exact lzy):P:=h
def Fc(h:P:=by by_cases hb:c<0\/(v.conns.length:Int)<=c;all_goals exact lzy):P:=h
def Fe(h:P:=by simp only [RepObj] at J |-;obtain ⟨b,c,T,fz,h1,h2,h3,h4⟩:=J;exact ⟨b,c,T,fz,h1,h2,Reps.step hX hK _ _ (λj hj=>zd9 hl (gL j hj)) (Reps.le _ _ _ hle h3),h4⟩;all_goals exact lzy):P:=h
def Ff(h:P:=by
 have ib:¬(a<0\/n<0\/1073741824<a\/65536<n):=by simp at J;omega
 obtain ⟨x,rfl⟩:∃x:Nat,a=x:=⟨a.toNat,fT⟩
 obtain ⟨y,rfl⟩:∃y:Nat,n=y:=⟨n.toNat,fT⟩
 all_goals exact lzy):P:=h
def Fg(h:P:=by simp only [Rep];all_goals exact lzy):P:=h
def Fh(h:P:=by rw [hO] at nI;cases nI;simp only [Instr.loadAt,Instr.sureAddr,ai,ar,ah];have ha:At W E s.h b (0+off) cs off (psize P t):=zg5 hb yA hl;rw [bL] at ha;exact zd5 ht ha hl;all_goals exact lzy):P:=h
def Fi(h:P:=by simp only [cd] at hb;simp only [Instr.slice,ai,run_underlying hu,ah,cd,hb,zQ hde,ar,av];generalize (s.bnd lo 0).2=l at*;generalize (s.bnd hi ((0:Nat):Int)).2=hh at*;all_goals exact lzy):P:=h
def Fj(h:P:=by refine ⟨rfl,λk R hR=>?_⟩;have h1:=h (λg v _=>R g v k) hR;unfold fop at h1 |-;all_goals exact lzy):P:=h
def Fk(h:P:=by have hz:decide ((0:Int)<=((i+1:Nat):Int) - 1)=true:=af fT;have ia:(((i+1:Nat):Int) - 1)=(i:Int):=fT;have hwi:IntKind.i64.wrap ((i:Int) - 1)=(i:Int) - 1:=zf fT fT;all_goals exact lzy):P:=h
def Fl(h:P:=by have gE:(d.data.length=(zh b).length)=True:=da na;have b3:List.take d.data.length (zh b)=zh b:=aA wP;refine' zc (zr J gE b3 @if_true.{1} @zao @za5);rw [hb,ao,zf0];all_goals exact lzy):P:=h
def Fm(h:P:=by have ab:IntKind.i64.wrap (96+2*t+(i:Int))=96+2*t+i:=zf fT fT;all_goals exact lzy):P:=h
def Fo(h:P:=by rw [<-hV];have ny:=znw h;have nU:=h.names;have qS:∀t∈s.x.names,t.length<=1000000:=λt ht=>aD (h.name t ht) gb;refine bod func243 ntmps243 (λbase=>?_);all_goals exact lzy):P:=h
def Fp(h:P:=by rename_i gx k m gy k' n he;obtain ⟨x,y,rfl,e1,e2⟩:=zv0 he;have J:=ev_ok hs x fU;have hy:=ev_ok hs y fU;rw [e1] at J;rw [e2] at hy;simp only [Rep,RepD] at J hy;all_goals exact lzy):P:=h
def Fq(h:P:=by refine zbp noTab (zb _) 1 (λ_=>iz) ?_;all_goals exact lzy):P:=h
def Fs(h:P:=by refine zD (λi=>decide (i<80)) ?_;all_goals exact lzy):P:=h
def Ft(h:P:=by
 obtain ⟨J,hJ⟩:∃J:Code->AHeap->Option (List (List AV))->Prop,J=λc h g=>c= .ret/\h= [(100,.var [.fn (.yield y.yl) [] []])]/\g=none:=⟨_,rfl⟩
 all_goals exact lzy):P:=h
def Fu(h:P:=by
 have gB:=zd0 ((i+1:Nat):Int);obtain ⟨X,hX⟩:∃X,X=sayS s.k 4 (putS8 ((i+1:Nat):Int) 4++m):=⟨_,rfl⟩
 have mG:X.length<=4116:=rH;have um:t++X≠ []:=zz;all_goals exact lzy):P:=h
def Fv(h:P:=by have jd:(I xs).1=tkH (xpOf s.x) { s with o:=c0,tv:= .osl 34 12 c0.tasks.length 0 c0.tasks.length,ts:=c0.tasks.map tskD } :=yJ;have kv:(I xs).2=some []:=lS;all_goals exact lzy):P:=h
def Fw(h:P:=by
 have ab:decide ((i:Int)<(n:Int))=true:=af fT;obtain ⟨D',hD⟩:∃D,D=toBeg r:=⟨_,rfl⟩
 have oO:D'.2.1.length<=1000000:=by rw [hD];exact aD (zei r) hr
 all_goals exact lzy):P:=h
def Fx(h:P:=by refine' zc (zat hd hb ab kM o6);refine (zcq (fix1 oc) gb rfl (zfs rfl) gD).mono ?_;all_goals exact lzy):P:=h
def Fy(h:P:=by obtain ⟨g1,g2⟩:=IF.step h.ok.x.img t o.n.metas;rw [<-hT] at g1 g2;have mw:=h.ok.x.step g2 g1;have mb:(o.tasks.set j T.2).length=o.tasks.length:=cO ..;all_goals exact lzy):P:=h
def Fz(h:P:=by simp only [Rep] at hx;all_goals exact lzy):P:=h
def FA(h:P:=by
 obtain ⟨T,J⟩:∃T,T=zb2 s:=⟨_,rfl⟩
 rw [<-J];obtain ⟨B,hB⟩:∃B,B=toBeg s:=⟨_,rfl⟩
 rw [zb2,<-hB] at J;have nR:B.2.1.length<=1000000:=qy;all_goals exact lzy):P:=h
def FB(h:P:=by obtain ⟨ab,ao,p8⟩:=a;simp only at ef hb hr hX;subst ef;all_goals exact lzy):P:=h
def FC(h:P:=by
 have J:(decide (at_<0)||decide ((s.length:Int) - t.length<at_))=false:=by simpa using h
 have jg:IntKind.i64.wrap (at_+t.length)=at_+t.length:=zf fT fT;all_goals exact lzy):P:=h
def FD(h:P:=by have bo:((1:Nat):Int)=1:=rfl;have fY:((2:Nat):Int)=2:=rfl;all_goals exact lzy):P:=h
def FE(h:P:=by
 rcases h4 rfl with ⟨⟨g1,g10⟩,rfl⟩|⟨b,g1,rfl⟩|⟨g1,rfl,a,cap,rfl⟩
 all_goals exact lzy):P:=h
def FF(h:P:=by exact ⟨_,_,_,h.2,λR' J=>mP,λ_=>rfl⟩;all_goals exact lzy):P:=h
def FG(h:P:=by rw [<-e1] at eg;refine aT (h _ a w eg) (λ_ _ _ hr=>hr.trans (Evo.trans (cc.evo (.inr (zbg _ _))) ?_));rw [e1];exact ch.evo (.inl (by simp [ia]));all_goals exact lzy):P:=h
def FH(h:P:=by
 have iZ:DP x.disk p0:=⟨h.disk,zch⟩
 all_goals exact lzy):P:=h
def FI(h:P:=by simp only [Rep] at hx hy;obtain ⟨us,rfl,hx⟩:=hx;obtain ⟨vs,rfl,hy⟩:=hy;all_goals exact lzy):P:=h
def FJ(h:P:=by
 have hc:¬(pset q (96+2*t+i) z64).2≠0:=by simpa using hc
 rw [U hc] at gq;exact ⟨⟨(i+1,(pset q (96+2*t+i) z64).1),fT,zfm hq,gq⟩,lew,gh⟩;all_goals exact lzy):P:=h
def FK(h:P:=by
 unfold Instr.lookup;simp only [ai,run_underlying (zmt ht),ah];have hget:(getObj b).run P W= .ok (.map mes clock) W:=by simp [getObj,Sem.run,q2]
 all_goals exact lzy):P:=h
def FL(h:P:=by
 obtain ⟨Z,J⟩:∃Z,Z=tstep x t ms:=⟨_,rfl⟩
 rw [<-J];have k5:=h.img;have oy:=h.g0;have r5:=h.maps;have gC:=h.ok;have k3:=h.frm;have wj:=h.lo;all_goals exact lzy):P:=h
def FM(h:P:=by have ab:decide ((i:Int)<(x.maps.length:Int))=false:=ag fT;refine' zc (zg ab hL);rw [cmark,U hg,show i=x.maps.length by omega,aL,aP,bm,aA fZ];rfl;all_goals exact lzy):P:=h
def FN(h:P:=by
 have J:eRef t i=false:=gQ;have j9:∀ (a b:Int),(if eRef t i=true then a else b)=b:=λa b=>by rw [U jH]
 obtain ⟨⟨j3,iG⟩,mA,ia⟩:=zkA J;all_goals exact lzy):P:=h
def FO(h:P:=by
 have J:(decide (g<0)||decide (64<=g))=false:=by simpa using hg
 have ab:IntKind.i64.wrap (g.tdiv 16)=g / 16:=uv;have a6:g.tmod 16=g % 16:=bX fT;all_goals exact lzy):P:=h
def FP(h:P:=by refine' zsJ (ownsL [1000367]) hI (za zq <| za zN <| za zt <| za zZ <| za zP <| za zag <| za zO <| za zy <| za zaM <| za zM <| za zG <| zb _);all_goals exact lzy):P:=h
def FQ(h:P:=by
 obtain ⟨⟨i,o⟩,hi,j0,ho,hf⟩:=q;simp only at hi j0 ho hf |-;rcases zw cutD l i hi with ⟨⟨c0,c1,c2⟩,hq,bu,J,an,b4,a7⟩|⟨ao,J⟩
 all_goals exact lzy):P:=h
def FR(h:P:=by have h0:l= []:=dz.1 (hnb hc);subst h0;all_goals exact lzy):P:=h
def FT(h:P:=by refine zbU 100 G I J (jV) jf rfl (zV rfl) ju rfl jh iV iW jE iK ja ?_ ?_ ?_;all_goals exact lzy):P:=h
def FU(h:P:=by
 have ti:=hc;have nn:¬x.broken=true:=by rw [ti];exact λh=>gS
 by_cases ir:guest<0\/x.geom.guest<=guest\/off<0\/128 - (s.length:Int)<off;all_goals exact lzy):P:=h
def FV(h:P:=by
 have J:(decide (n<(s.length:Int))||decide (65536<n))=false:=by simpa using h
 have hm:IntKind.i64.wrap (n - s.length)=n - s.length:=zf fT fT;all_goals exact lzy):P:=h
def FW(h:P:=by obtain ⟨v,r,rfl,h2,h3⟩:=J;all_goals exact lzy):P:=h
def FX(h:P:=by
 obtain ⟨H,hH⟩:∃H,H=putN t.seq.toNat 8++putN t.plan.targets.length 2:=⟨_,rfl⟩
 have kD:H.length=10:=by rw [hH,ae,kC,js]
 rw [<-hH];all_goals exact lzy):P:=h
def FY(h:P:=by have gd:(⟨l.toArray⟩:ByteArray).size=l.length:=mj;all_goals exact lzy):P:=h
def FZ(h:P:=by simp only [AObj.le] at hle;subst hle;all_goals exact lzy):P:=h
def F0(h:P:=by obtain ⟨s,hq⟩:=zaD (l:=p.texts) (i:=k) fT;have J:=zbB (g:=strD) hq;simp only [strD] at J;have h1:decide ((0:Int)<=(k:Int))=true:=af fT;all_goals exact lzy):P:=h
def F1(h:P:=by have hm:IntKind.i64.wrap ((s.length:Int) - t.length)=(s.length:Int) - t.length:=zf fT fT;by_cases h:at_<0\/(s.length:Int) - t.length<at_;all_goals exact lzy):P:=h
def F2(h:P:=by
 obtain ⟨⟨i,b⟩,hi,hb,c8⟩:=q;simp only at hi hb c8 |-;rcases zw putD d.cache i hi with ⟨⟨m,s⟩,hq,bo,J,ab,b4,a7⟩|⟨ao,J⟩
 all_goals exact lzy):P:=h
def F3(h:P:=by simp only [execOp,resolve,hcal,hca,hct,ai,ar,ah,invoke,builtin];simp [hr];all_goals exact lzy):P:=h
def F4(h:P:=by refine' walkW (zr J ab pq vn jr (zp an @List.length_append.{0} iA)) (za zeJ <| za zH <| za zeL <| za zbV <| za zcc <| za zaV <| zb _);all_goals exact lzy):P:=h
def F5(h:P:=by have rk:IntKind.i64.wrap ((a':Int)+(m:Int))=((a'+m:Nat):Int):=iM;have rl:IntKind.i64.wrap ((n':Int) - (m:Int))=((n' - m:Nat):Int):=iM;all_goals exact lzy):P:=h
def F6(h:P:=by have J:decide ((i:Int)<2)=false:=ag fT;refine' walkW J (za zcw <| za zdf <| za zde <| za zec <| zb _);rw [gq,show 2 - i=0 by omega];rfl;all_goals exact lzy):P:=h
def F7(h:P:=by unfold imgC img0 rowD;refine' z8 (zL 7) (zg J mM);refine zaI 5 12 rfl ?_;all_goals exact lzy):P:=h
def F8(h:P:=by refine Does.wpIn h3 (R:=λv' w'=>v'=a.eval x/\w'=w) (.inl ⟨a.eval x,w,by rw [he];rfl,rfl,rfl⟩) ?_;rintro v' w' ⟨rfl,rfl⟩;all_goals exact lzy):P:=h
def F9(h:P:=by refine' walkW (zr oI.symm hR.symm hY.symm hP.symm hD.symm (zg hZ.symm tu)) (za zar <| za zJ <| za zW <| za zah <| za zas <| zb _);all_goals exact lzy):P:=h
def Ga(h:P:=by
 obtain ⟨s,hs⟩:∃s,s=(t.q.data.take ((c0:Int)*128+c1 - t.q.frm+c2).toNat).drop ((c0:Int)*128+c1 - t.q.frm).toNat:=⟨_,rfl⟩
 all_goals exact lzy):P:=h
def Gb(h:P:=by subst gk;refine' walkW (zr oI.symm hR.symm hY.symm hP.symm hD.symm hZ.symm) (za zb0 <| za zq <| za zN <| za zag <| za zO <| zb _);all_goals exact lzy):P:=h
def Gc(h:P:=by refine zjX (l:=v.conns) (k:=k) (m:=m) lG fT (by rw [hσ]) (by rw [hσ,bu];rfl) (by rw [hσ,im];rfl) gb gb gb ?_;unfold imgC img0;all_goals exact lzy):P:=h
def Gd(h:P:=by have hu:=zY ht;obtain ⟨he,hk,h0,h1⟩:=hv;obtain ⟨de,jB⟩:=zcp he;all_goals exact lzy):P:=h
def Ge(h:P:=by rw [hJ];rintro c h3 g3 ⟨rfl,rfl,rfl⟩;all_goals exact lzy):P:=h
def Gf(h:P:=by refine zD (λi=>decide (i=4)) ?_;all_goals exact lzy):P:=h
def Gg(h:P:=by have gk:=h.k0;have gx:=h.k1;have J:=zcg s.k kind data;refine bod func176 ntmps176 (λbase=>?_);refine' walkW fx (za zkT <| zb _);all_goals exact lzy):P:=h
def Gh(h:P:=by exact ⟨⟨i+1,fT,hf⟩,lew,gh⟩;all_goals exact lzy):P:=h
def Gi(h:P:=by rintro r h' ⟨rfl,(⟨he,rfl⟩|⟨he,rfl⟩)⟩;all_goals exact lzy):P:=h
def Gj(h:P:=by exact .inr ⟨b,d,T,fz,h1,fU,h3,h4,RepRows.step fU fU _ _ _ h5,h6⟩;all_goals exact lzy):P:=h
def Gk(h:P:=by refine zj noTab (zb _) (λK hK=>?_);simp only [go_sem,aj,aU,aV,aW,aw,aeq,aeq.aeqF,simprocAttr,nJ];refine hK _ ?_;clear hK K;all_goals exact lzy):P:=h
def Gl(h:P:=by simp only [chOf,aB,aJ] at hc;obtain ⟨rfl,rfl⟩:=hc;refine ⟨hne kK,λk hk R hR=>?_⟩;have h2:=h (λg v _=>R g v k) hR;all_goals exact lzy):P:=h
def Gm(h:P:=by rintro r h' ⟨ob',⟨rfl,rfl⟩,rfl⟩;all_goals exact lzy):P:=h
def Gn(h:P:=by have jq:(decide (0<=c)&&decide (c<(v.conns.length:Int)))=false:=v8;all_goals exact lzy):P:=h
def Gp(h:P:=by exact ⟨⟨(nwDo w,k),D.ok,by rw [qw,hx],by show ngM (nwDo w).n<=k;omega,by rw [kt,pX],D.ph,by rw [e1,zim],yz⟩,xW,e3⟩;all_goals exact lzy):P:=h
def Gq(h:P:=by simp only [go_sem,aeq,aeq.aeqF,simprocAttr,hset];all_goals exact lzy):P:=h
def Gr(h:P:=by obtain ⟨b,d,T,fz,h1,h2,J,h4⟩:=this;exact ⟨b,d,T,fz,h1,sh.keep _ _ h2 fU fU,Reps.stepc (hX_of hX) sh.hK _ _ fU J,h4⟩;all_goals exact lzy):P:=h
def Gs(h:P:=by have nx:∀ {m:Ng} {t:Txt},ngOpt s.n s.x s.k s.d=(m,t)->nwOpt s= { s with n:=ngClr m,p:= .tp 3 9,out:=s.out++t } :=zdc fT;all_goals exact lzy):P:=h
def Gt(h:P:=by simp only [Reps] at hr;obtain ⟨v0,r0,e0,q0,rfl⟩:=hr;have px:=q0;simp only [Rep] at q0;obtain ⟨b,T',cs',kA,hb,rfl⟩:=q0;all_goals exact lzy):P:=h
def Gu(h:P:=by simp only [RepObj];refine ⟨b,c',T',fz,g1,g2,?_,g4,g5⟩;obtain ⟨v,hv,qe⟩:=Reps.get g3 ho;simp only [Rep] at qe;subst qe;all_goals exact lzy):P:=h
def Gv(h:P:=by simp only [RepObj,hO] at J |-;obtain ⟨b,c,T,fz,g1,g2,g3,g4⟩:=J;exact ⟨b,c,T,fz,g1,g2,Reps.step fU fU _ _ fU g3,g4⟩;all_goals exact lzy):P:=h
def Gw(h:P:=by rw [zhh intD p.targets at_ [D.int .i64 at_] rfl,zhh strD p.texts s [D.str s] rfl];by_cases h6:24<=(p.targets.length:Int);all_goals exact lzy):P:=h
def Gx(h:P:=by rintro r h' ⟨aZ,⟨rfl,rfl⟩,rfl⟩;all_goals exact lzy):P:=h
def Gy(h:P:=by refine fbod func264 ntmps264 (λbase=>?_);refine' walkW (zg hM.symm hk) (za zhI <| za zaA <| za zaf <| za zgB <| zb _);all_goals exact lzy):P:=h
def Gz(h:P:=by rcases hx with hx|hx|hx;all_goals exact lzy):P:=h
def GA(h:P:=by obtain ⟨rfl,rfl⟩:=e;all_goals exact lzy):P:=h
def GB(h:P:=by obtain ⟨d,J,he⟩:=zeQ h fZ;all_goals exact lzy):P:=h
def GC(h:P:=by
 obtain ⟨Z,hZ⟩:∃Z,Z=zcy x l1 a n:=⟨_,rfl⟩
 rw [<-hZ];rw [zcy] at hZ;by_cases hr:n<1\/inB x.geom.guest a n=false;all_goals exact lzy):P:=h
def GD(h:P:=by have hw:IntKind.u64.wrap n=n:=zA fT fT;all_goals exact lzy):P:=h
def GF(h:P:=by have ab:decide ((i:Int)<(z:Int))=false:=ag fT;refine' zc (zg ab natC);have:i=z:=fT;subst this;simp only [takeS,U h,U hc,aw];all_goals exact lzy):P:=h
def GG(h:P:=by rw [hw];simp only [AS.le,leT,leH,AV.le,AV.leL,AObj.le,inH,idsT,idsH,AV.ids,AV.idsL,AObj.ids,lk,hget,go_sem,simprocAttr];all_goals exact lzy):P:=h
def GH(h:P:=by have qi:decide ((i:Int)<(p.texts.length:Int))=true:=xz;have hz:(p.targets.zip p.texts)[i]?=some (m,s):=eT.2 ⟨hq,fV⟩;all_goals exact lzy):P:=h
def GI(h:P:=by refine za0 40 rfl ?_;simp only [go_sem,aeq,aeq.aeqF,simprocAttr];all_goals exact lzy):P:=h
def GJ(h:P:=by exact ⟨b,d,T,fz,h1,h2,Reps.step (W:=w) (W':=w.drew) fU (λ_ _ _=>rfl) _ _ (λj _=>GoesOn.refl E s.h j) h3,h4⟩;all_goals exact lzy):P:=h
def GK(h:P:=by subst ao;rw [aP,zaK] at hg;rw [hg] at hV;have jv:=zcg k 1 [];refine' walkW (zg J gF) (za zcP <| za zaf <| za zH <| zb _);all_goals exact lzy):P:=h
def GL(h:P:=by rintro r1 h' ⟨rfl,rfl⟩;all_goals exact lzy):P:=h
def GM(h:P:=by
 obtain ⟨R,hR⟩:∃R,R=zF X.disk p0:=⟨_,rfl⟩
 obtain ⟨Y,hY⟩:∃Y,Y=elook X.disk p0 R.1.l1 guest:=⟨_,rfl⟩
 all_goals exact lzy):P:=h
def GN(h:P:=by refine' walkW he (za zbQ <| za ziZ <| za zbs <| za zck <| zb _);all_goals exact lzy):P:=h
def GO(h:P:=by obtain ⟨j,hj,hg⟩:=q;simp only at hj hg |-;all_goals exact lzy):P:=h
def GP(h:P:=by have J:decide ((i:Int)<2)=true:=af fT;all_goals exact lzy):P:=h
def GQ(h:P:=by rw [U gA] at hg;exact ⟨⟨(i+1,l++ [D'.1],D'.2.1),fT,by simp [hl],oO,hg⟩,lxb (lan hw (lan aG @strD.eq_1)),gh⟩;all_goals exact lzy):P:=h
def GR(h:P:=by refine (zcU (zi6 o (o.tasks.map tskD) o.tasks.length) rfl ⟨rfl,trivial⟩ trivial ⟨rfl,trivial⟩ rfl).mono ?_;all_goals exact lzy):P:=h
def GS(h:P:=by refine' walkW J (za zaO <| za zak <| za zbF <| za zae <| zb _);all_goals exact lzy):P:=h
def GU(h:P:=by rw [hx] at J;simp only [Foot.on.injEq] at J;subst J;split at h1;all_goals exact lzy):P:=h
def GV(h:P:=by rw [aa hc] at gn;exact ⟨_,rfl,by rw [gn]⟩;all_goals exact lzy):P:=h
def GW(h:P:=by rw [ao,aP,spL] at hf;have yQ:o.length<=65536:=fT;refine za0 0 rfl ?_;simp only [go_sem,aeq,aeq.aeqF,simprocAttr];all_goals exact lzy):P:=h
def GX(h:P:=by
 have J:(!zac k)=false:=by rw [hk];rfl
 obtain ⟨gk,gx⟩:=hostOk_iff.1 hk;by_cases he:(plook d p (87+k / 32)).2=0;all_goals exact lzy):P:=h
def GY(h:P:=by simp only [AV.le] at J;simp only [Rep] at hr |-;obtain ⟨vs,h1,h2⟩:=hr;exact ⟨vs,h1,Reps.le xs ys _ J h2⟩;all_goals exact lzy):P:=h
def GZ(h:P:=by
 have iZ:DP d p0:=⟨h,zch⟩
 have gx:(elook d p0 l1 guest).1.kind=1->zac (elook d p0 l1 guest).1.loc=true:=zhm;all_goals exact lzy):P:=h
def G0(h:P:=by exact ⟨⟨(i+1,t++X,ids++ [((i+1:Nat):Int)]),fT,pI,tK,hg⟩,lxb (lan hwi (lan aG (lan ae @u32D.eq_1))),gh⟩;all_goals exact lzy):P:=h
def G1(h:P:=by simp only [Rep] at hx |-;all_goals exact lzy):P:=h
def G2(h:P:=by have lE:∀x y,Rep w E h x y->Rep w' E h x y:=λx y jI=>Rep.step fU fU x y (λj _=>GoesOn.refl E h j) jI;all_goals exact lzy):P:=h
def G3(h:P:=by
 constructor<;>(try rw [nwDo])<;>rw [U fT,e]<;>(try rw [hst])
 all_goals exact lzy):P:=h
def G4(h:P:=by
 rename_i x y t u ha ht;try rw [ha,ht]
 try dsimp only
 rw [ha] at he;rw [<-he x fU,<-he y fU,<-hh];split at h;all_goals exact lzy):P:=h
def G5(h:P:=by refine' walkW (zr J hs ab a6 @zjo (zr @zgv @zgw @List.length_append.{0} js iA (zg kC natC))) (za zH <| zb _);all_goals exact lzy):P:=h
def G6(h:P:=by
 obtain ⟨R,hR⟩:∃R,R=zbX x c0 c1 s:=⟨_,rfl⟩
 have ld:P=(R.1,[],R.2):=Ah;rw [ld] at J;simp only [bm] at J;all_goals exact lzy):P:=h
def G7(h:P:=by rw [he] at hx;simp only [Rep] at hx;all_goals exact lzy):P:=h
def G8(h:P:=by refine' zau fx;all_goals exact lzy):P:=h
def G9(h:P:=by refine zfV ?_;simp only [go_sem,simprocAttr];refine lx _ ?_;all_goals exact lzy):P:=h
def Ha(h:P:=by obtain ⟨i,hi⟩:=q;simp only;have hL:((x.maps.take i).map (mset g)++x.maps.drop i).length=x.maps.length:=gh;all_goals exact lzy):P:=h
def Hb(h:P:=by
 have jc:=ay ht;obtain ⟨t1,t2,t3⟩:=b9.tsk t jc;obtain ⟨T,hT⟩:∃T,T=tstep v.x t o.n.metas:=⟨_,rfl⟩
 all_goals exact lzy):P:=h
def Hc(h:P:=by
 have hn:(xpOf x).names.length<=2:=by simp only [xpOf,al];exact hx.maps
 have hm:=zg1 hn h.ms s;have hb:=h.buf;all_goals exact lzy):P:=h
def Hd(h:P:=by have e0:decide (i<0)=false:=ag mA;have e1:decide ((o.tasks.length:Int)<=i)=true:=af fT;refine' zc (zg e0 e1);all_goals exact lzy):P:=h
def He(h:P:=by exact znM ht n l ops J ab hk λl' oi E' s' a' w' g1 g2 g3 g4=>hR l' oi E' s' a' w' g1 g2 g3 (et.trans g4);all_goals exact lzy):P:=h
def Hf(h:P:=by
 obtain ⟨hl,iQ,gV⟩:=zbk hp;have pC:PlanOk p:=⟨fT,fT⟩
 all_goals exact lzy):P:=h
def Hg(h:P:=by
 obtain ⟨V,J⟩:∃V,V=reqRd s:=⟨_,rfl⟩
 rw [<-J];obtain ⟨n,hn⟩:∃n,n=min 4 s.length:=⟨_,rfl⟩
 all_goals exact lzy):P:=h
def Hh(h:P:=by intro xs x1 bu ab tB r1;obtain ⟨ys,qq,zs,kb,rfl,iR⟩:=zes bu;have jl:xs.length=ys.length:=tD;rw [hG] at ab;all_goals exact lzy):P:=h
def Hi(h:P:=by have nJ:∀ (x:Bool) (w:World),(Op.unary .not (.bool x)).run Tryz.prog w= .ok (.bool (!x)) w:=λ_ _=>rfl;all_goals exact lzy):P:=h
def Hj(h:P:=by have ab:decide ((i:Int)<(n:Int))=false:=ag fT;obtain rfl:i=n:=fT;rw [cu,zex] at hg;rw [hg] at J;simp only at J;all_goals exact lzy):P:=h
def Hk(h:P:=by have h1:=h.dok;have h2:=h.puts;have h3:=h.p;all_goals exact lzy):P:=h
def Hl(h:P:=by exact ⟨b,c,T,fz,g1,(lL b (hl b g1).1 (hl b g1).2).trans g2,Reps.step sg si _ _ (λj _=>uc j) g3,g4⟩;all_goals exact lzy):P:=h
def Hm(h:P:=by simp only [footA,Foot.on.injEq] at h;grind;all_goals exact lzy):P:=h
def Hn(h:P:=by simp only [RepObj,(mg i jD).1] at this |-;all_goals exact lzy):P:=h
def Ho(h:P:=by rw [ie];unfold OutOk;have:=(zg1 (n:=o.n) (x:=xpOf v.x) Az b9.ms s).2;rw [<-hF] at this;simp only [ae];omega;all_goals exact lzy):P:=h
def Hp(h:P:=by refine' zc J;rw [hf,ao,aP];rfl;all_goals exact lzy):P:=h
def Hq(h:P:=by obtain ⟨_,xs',h1,_,h3,h4⟩:=J;rw [hi] at h1;cases h1;have hlen:((xs.drop off).take len).length=len:=fU;all_goals exact lzy):P:=h
def Hr(h:P:=by intro xs x bu ab l1 r1;obtain ⟨ys,⟨n,s⟩,zs,rfl,rfl,iR⟩:=zes bu;rw [hG] at ab;simp only [zf6] at ab;all_goals exact lzy):P:=h
def Hs(h:P:=by simp only [RepObj] at ec;all_goals exact lzy):P:=h
def Ht(h:P:=by refine' zc (zp fW he lb);all_goals exact lzy):P:=h
def Hu(h:P:=by
 obtain ⟨l,hl⟩:∃l,l=w0.heap.size+1:=⟨_,rfl⟩
 obtain ⟨d,hd⟩:∃d,d=w0.heap.size:=⟨_,rfl⟩
 all_goals exact lzy):P:=h
def Hv(h:P:=by
 have hd:=h.d;obtain ⟨M,hM⟩:∃M,M=zb2 s.d:=⟨_,rfl⟩
 obtain ⟨V,hV⟩:∃V,V=nwOpt s:=⟨_,rfl⟩
 all_goals exact lzy):P:=h
def Hw(h:P:=by rename_i x J;unfold aopT;rw [J];dsimp only;rw [aa (show zeV cx.P _=true from rfl)];unfold aop;simp_all;all_goals exact lzy):P:=h
def Hx(h:P:=by
 have J:(decide (n<(s.length:Int))||decide (65536<n))=true:=by simpa using h
 refine' zc J;rw [padS,aa h];all_goals exact lzy):P:=h
def Hy(h:P:=by exact ⟨_,_,rfl,rfl,.inr ⟨he,rfl⟩⟩;all_goals exact lzy):P:=h
def Hz(h:P:=by exact ⟨_,_,h,λK' hk=>kI,λe=>og⟩;all_goals exact lzy):P:=h
def HA(h:P:=by refine' walkW (zg J @if_true.{1}) (za zdW <| za zbc <| za zaN <| za zdV <| za zdo <| za zcb <| zb _);all_goals exact lzy):P:=h
def HB(h:P:=by
 obtain ⟨R,hR⟩:∃R,R=iread x (c0*128+c1) c2:=⟨_,rfl⟩
 have ld:P=(x,R):=by rw [hP,tpc,aa hq,hR]
 all_goals exact lzy):P:=h
def HC(h:P:=by
 obtain ⟨J,hJ⟩:∃J:Code->AHeap->Option (List (List AV))->Prop,J=λc h g=>False:=⟨_,rfl⟩
 all_goals exact lzy):P:=h
def HD(h:P:=by
 obtain ⟨T,hT⟩:∃T,T=zey s:=⟨_,rfl⟩
 rw [<-hT];obtain ⟨B,hB⟩:∃B,B=toBeg s:=⟨_,rfl⟩
 all_goals exact lzy):P:=h
def HE(h:P:=by have pH:(match d with| .int _=>true|_=>false)=false:=ig;all_goals exact lzy):P:=h
def HF(h:P:=by have il:SatH E2 s2.h w3:=eg.hp.refit sh rfl rfl fU (λb J=>(eg.hp.own b J).2) eg.hp.mlt eg.hp.nlt;all_goals exact lzy):P:=h
def HG(h:P:=by have iG:List.take 64 ((m.bits.map D.bool).map AV.d)=(m.bits.map D.bool).map AV.d:=aA (by simp [hm]);all_goals exact lzy):P:=h
def HH(h:P:=by
 simp only [eu] at J;obtain ⟨P,hP⟩:∃P,P=tpc x t.q (c0,c1,c2):=⟨_,rfl⟩
 rw [tpcK,<-hP] at J;all_goals exact lzy):P:=h
def HI(h:P:=by rintro h' (⟨_,rfl⟩|⟨_,rfl⟩) i hi;all_goals exact lzy):P:=h
def HJ(h:P:=by
 have jU:=h.spans;obtain ⟨L,hL⟩:∃L,L=t.spans:=⟨_,rfl⟩
 have qL:=h.rows;rw [<-hL] at jU qL J;all_goals exact lzy):P:=h
def HK(h:P:=by exact .inl ⟨_,_,hexec _ _ hr,_,_,_,hk,q1,Evo.trans (E':=E) (h':=s.h) (w':=W.drew) hdrew q2,q3⟩;all_goals exact lzy):P:=h
def HL(h:P:=by simp only [cr,dF] at hk;obtain ⟨qk,ql⟩:=hostOk_iff.1 hk.1;obtain ⟨j3,iG⟩:=hostOk_iff.1 hk.2;all_goals exact lzy):P:=h
def HM(h:P:=by have:=zmp h.ok.x (b9.more (show 400000<=400000 by omega)) s;rw [<-hF] at this;exact this.more fT;all_goals exact lzy):P:=h
def HN(h:P:=by
 have J:(decide (dt< -(rget d p k).1)||decide (65535 - (rget d p k).1<dt))=true:=by simpa using hc
 all_goals exact lzy):P:=h
def HO(h:P:=by simp only [AS.le,leT,leH,AV.le,AObj.le,inH,idsT,idsH,AV.ids,AObj.ids,lk,hget,go_sem,simprocAttr];all_goals exact lzy):P:=h
def HP(h:P:=by refine fbod func333 ntmps333 (λbase=>?_);refine' walkW (zp ic hw hb) (za zcE <| za zx <| zb _);all_goals exact lzy):P:=h
def HQ(h:P:=by
 obtain ⟨o2,iL⟩:∃o2:Cn,o2= { o with tasks:=o.tasks.eraseIdx j,out:=o.out++R } :=⟨_,rfl⟩
 all_goals exact lzy):P:=h
def HR(h:P:=by have lW:=h.l0;have jv:=h.l1;have jJ:=h.f0;have qB:=h.f1;all_goals exact lzy):P:=h
def HS(h:P:=by
 have jJ:f q i=(z64,0):=by rw [hf]
 simp only [jJ] at gq;rw [U (show ¬(0:Int)≠0 by decide)] at gq;all_goals exact lzy):P:=h
def HT(h:P:=by
 have J:(decide (guest<0)||decide (x.geom.guest<=guest))=true:=by simpa using hr
 rw [aa hr] at iC;all_goals exact lzy):P:=h
def HU(h:P:=by refine' walkW he (za za6 <| za zgW <| za zaT <| zb _);all_goals exact lzy):P:=h
def HV(h:P:=by refine ⟨λ_ _=>trivial,?_⟩;all_goals exact lzy):P:=h
def HW(h:P:=by
 rcases zBA hs.hp hx hi rfl hol with ⟨rfl,p,cap,ex⟩|⟨b,cc,T,fz,cap,g3,ex,q2,q3,q4,q5,q6⟩
 all_goals exact lzy):P:=h
def HX(h:P:=by simp only [Rep,RepD] at hx |-;subst hx;all_goals exact lzy):P:=h
def HY(h:P:=by rw [U sH] at hg;rw [kM] at hb;refine' walkW (zB J an hb hwi) (za zcP <| za zaf <| za zH <| zb _);all_goals exact lzy):P:=h
def HZ(h:P:=by refine' walkW (zB hcmp hrow hC.symm he) (za zU <| za zaj <| za zW <| za zdE <| za zaR <| zb _);all_goals exact lzy):P:=h
def H0(h:P:=by refine zaa _ (zjL ht k l ops J ab hk) ?_;rintro e a2 w2 ⟨rfl,hr⟩;exact ⟨rfl,hr.trans et⟩;all_goals exact lzy):P:=h
def H2(h:P:=by obtain ⟨hl,iQ,gV⟩:=zbk hf;have sP:=zsW hf;have kX:((t.plan.targets.length:Int)==0)=false:=iN;all_goals exact lzy):P:=h
def H3(h:P:=by refine' zgu (ownsL [2000181]) J.symm (za zce <| za zbl <| za zaz <| za zcL <| za zbK <| zb _);all_goals exact lzy):P:=h
def H4(h:P:=by refine' walkW (zr hcmp2 hrow2 hlt hrow natC (zg hml hbv)) (za zU <| za zaj <| za zaR <| zb _);all_goals exact lzy):P:=h
def H5(h:P:=by refine' walkW (zp hb b3 iH) (za zbq <| za zdk <| za zdl <| za zbZ <| za zT <| za zdT <| zb _);all_goals exact lzy):P:=h
def H6(h:P:=by refine ⟨⟨_,_,_,rfl⟩,[],?_,fZ,fZ,λ_=> .inl ⟨by rw [nO];simp [Env.set],trivial⟩⟩;all_goals exact lzy):P:=h
def H7(h:P:=by obtain ⟨z,h1,h2,h3⟩:=ziG (W:=W) (E:=E) (s:=s) hz;all_goals exact lzy):P:=h
def H8(h:P:=by have hol2:o.length<=65536:=fT;refine za0 1 rfl ?_;simp only [go_sem,aeq,aeq.aeqF,simprocAttr];all_goals exact lzy):P:=h
def H9(h:P:=by have e0:decide ((j:Int)<0)=false:=ag fT;have e1:decide ((o.tasks.length:Int)<=j)=false:=ag fT;all_goals exact lzy):P:=h
def Ia(h:P:=by exact ⟨_,rfl,_,_,rfl,⟨_,rfl,_,_,rfl,rfl,_,_,rfl,rfl,rfl⟩,_,_,rfl,rfl,_,_,rfl,rfl,rfl⟩;all_goals exact lzy):P:=h
def Ib(h:P:=by unfold rowC;refine bod func61 ntmps61 (λbase=>?_);all_goals exact lzy):P:=h
def Ic(h:P:=by simp only [anvR,anvOk,anvB] at J rV e8;all_goals exact lzy):P:=h
def Ie(h:P:=by rintro g h' ⟨h1,rfl⟩;exact ⟨λi hi=>gK,h1⟩;all_goals exact lzy):P:=h
def Ig(h:P:=by rename_i x J;rw [J] at he;have:=he x (by simp [zbD]);rw [this.1,this.2,hh] at h;unfold fop;grind;all_goals exact lzy):P:=h
def Ih(h:P:=by
 rename_i hcal;try rw [hcal]
 try dsimp only
 split at h;all_goals exact lzy):P:=h
def Ii(h:P:=by refine' z8 (zL 2) fx;all_goals exact lzy):P:=h
def Ij(h:P:=by refine ⟨λi o ho=>?_,λi j b hi hj h1 h2=>?_,λb hb=>?_,λb hb=>?_,λb hb=>?_⟩;all_goals exact lzy):P:=h
def Ik(h:P:=by obtain ⟨e1,e2,e3⟩:=D.yes hb;have As:=D.ok;rw [hb,aa rfl] at pX;have qw:=D.x;have hlen:=D.len;all_goals exact lzy):P:=h
def Il(h:P:=by
 obtain ⟨Z,hZ⟩:∃Z,Z=wipe x guest k4:=⟨_,rfl⟩
 have iC:=hZ;rw [wipe] at iC;have k5:=h.ok;all_goals exact lzy):P:=h
def Im(h:P:=by have ka:Reps w E1 h args vs.toList:=Reps.refit (E:=E) (E':=E1) (Shut.refl 0 w) rfl rfl np hr;all_goals exact lzy):P:=h
def Io(h:P:=by have ab:IntKind.i64.wrap q.frm=q.frm:=zf fT fT;have a6:IntKind.i64.wrap q.len=q.len:=zf fT fT;all_goals exact lzy):P:=h
def Ip(h:P:=by simp only [Reps] at J;all_goals exact lzy):P:=h
def Iq(h:P:=by refine' walkW J (za zbW <| za zcJ <| za zae <| za zx <| za zcI <| za zcK <| za zbI <| zb _);all_goals exact lzy):P:=h
def Ir(h:P:=by refine' walkW (zg ho hb) (za zaA <| za zaf <| za zaS <| za zap <| za zaG <| za zaF <| zb _);all_goals exact lzy):P:=h
def Is(h:P:=by obtain ⟨de,hde⟩:=zcp he;all_goals exact lzy):P:=h
def It(h:P:=by have h2:=h.data (λe=>by simp only [e] at J;cases J);have h3:=h.tsk t J;rw [zgn h2];exact h3;all_goals exact lzy):P:=h
def Iu(h:P:=by exact ⟨rfl,rfl⟩;all_goals exact lzy):P:=h
def Iv(h:P:=by exact ⟨⟨(i+1,(pset q (96+2*t+i) (plook d q (96+2*a+i)).1).1),fT,zfm hq,gq⟩,lew,gh⟩;all_goals exact lzy):P:=h
def Iw(h:P:=by rename_i tt cs hh;exact (hj0 jO).elim;all_goals exact lzy):P:=h
def Ix(h:P:=by refine (zaH (zdK s 2147483651 [] h gb gb)).mono ?_;all_goals exact lzy):P:=h
def Iy(h:P:=by obtain ⟨h1,g1⟩:=b.go i hi h;obtain ⟨h2,g2⟩:=a.go i hi h1;exact ⟨h2,g2.trans g1⟩;all_goals exact lzy):P:=h
def Iz(h:P:=by
 obtain ⟨f,hf⟩:∃f:Plan->Int->Txt×Int,f=λq i=>plook d q (96+2*a+i):=⟨_,rfl⟩
 all_goals exact lzy):P:=h
def IA(h:P:=by simp only [bq,aq] at ha;exact ⟨_,_,rfl,Rep.tag (ev_ok hs.slots x ha.1),ih ts s6 ha.2⟩;all_goals exact lzy):P:=h
def IB(h:P:=by refine' walkW hA.symm (za zaA <| za zaf <| za zaS <| za zap <| za zaG <| za zaF <| zb _);all_goals exact lzy):P:=h
def IC(h:P:=by
 obtain ⟨hl,iQ,gV⟩:=zbk hf;have pC:PlanOk p:=⟨fT,fT⟩
 have ni:=hd.ok;have iZ:=hd.puts;all_goals exact lzy):P:=h
def ID(h:P:=by rw [hf] at he;rw [he f fU,all_e (λy J=>he y (.inr J)),zip_e (λy J=>he y (.inr J))];all_goals exact lzy):P:=h
def IE(h:P:=by refine' walkW (zB hd he gk nv) (za zbQ <| za zbb <| za zbs <| za zck <| za zcB <| zb _);all_goals exact lzy):P:=h
def IG(h:P:=by refine' walkW (zB hd he gk nv) (za za6 <| za zaB <| za zaT <| za zcA <| za zbP <| zb _);all_goals exact lzy):P:=h
def IH(h:P:=by refine ⟨_,_,zBP p.targets fT,_,_,zBQ p.texts fT,fX,hK _ ?_⟩;clear hK K;simp only [al];all_goals exact lzy):P:=h
def II(h:P:=by refine .inr ⟨b,_,T,fz,hb,zfu hblt,by rw [zds];grind,fU,?_,mW⟩;rw [zdd,zj4 _ _ _ hle];all_goals exact lzy):P:=h
def IJ(h:P:=by
 obtain ⟨m,rfl⟩:∃m:Nat,n=m:=⟨n.toNat,fT⟩
 all_goals exact lzy):P:=h
def IK(h:P:=by have uG:pf= #[]:=AM;subst uG;simp only [Reps] at qY;obtain ⟨v0,r,lU,n6,hr⟩:=qY;subst hr;all_goals exact lzy):P:=h
def IL(h:P:=by simp only [aq,ax,aF] at J |-;obtain ⟨⟨⟨⟨⟨h1,h2⟩,h3⟩,h4⟩,h5⟩,h6⟩:=J;all_goals exact lzy):P:=h
def IM(h:P:=by
 have hb:((plook d p A).2 !=0)=false:=by simpa using he
 have gV:=zf9 h he;rw [U gp] at kG;all_goals exact lzy):P:=h
def IN(h:P:=by
 have J:(decide (at_<0)||decide ((s.length:Int) - t.length<at_))=true:=by simpa using h
 all_goals exact lzy):P:=h
def IP(h:P:=by simp only [go_sem,aeq,aeq.aeqF,simprocAttr,hsel];all_goals exact lzy):P:=h
def IQ(h:P:=by
 simp only [RepObj,hO2,hC2] at hr |-;rcases hr with g|⟨b,c,T,fz,g1,g2,g3,g4,g5,g6⟩
 all_goals exact lzy):P:=h
def IS(h:P:=by rw [he] at hf hn;rw [aa rfl] at hf;have e9:=he;unfold extOk at e9;simp only [aq,ax] at e9;all_goals exact lzy):P:=h
def IT(h:P:=by rintro e w' ⟨rfl,J⟩;refine ⟨_,rfl,J,λW E h'=>?_⟩;simp only [Rep,Reps,RepD,h];all_goals exact lzy):P:=h
def IU(h:P:=by refine' walkW (zat hd hb bo hF.symm he) (za zbo <| za zbn <| za z6 <| za zaY <| zb _);all_goals exact lzy):P:=h
def IV(h:P:=by obtain ⟨j3,iG⟩:=there_iff.mp ht;have hm:IntKind.i64.wrap (at_*64)=at_*64:=zf fT fT;all_goals exact lzy):P:=h
def IW(h:P:=by
 obtain ⟨g,rfl⟩:∃g:Nat,guest=g:=⟨guest.toNat,fT⟩
 have nX:g<64:=fT;refine' zc J;all_goals exact lzy):P:=h
def IX(h:P:=by
 have nR:B.2.1.length<=1000000:=qy;obtain ⟨Z,hZ⟩:∃Z,Z=takeS B.2.1 2:=⟨_,rfl⟩
 all_goals exact lzy):P:=h
def IY(h:P:=by exact ⟨b,c,T,fz,g1,fU,Reps.step hX1 fU _ _ (λj hj=>hgo1 j (hidso j hj)) g3,g4⟩;all_goals exact lzy):P:=h
def IZ(h:P:=by simp only [aB,aJ] at hc;obtain ⟨rfl,rfl⟩:=hc;all_goals exact lzy):P:=h
def I0(h:P:=by rw [zr3] at hk';obtain ⟨q,hq,e⟩:=bF.1 hk';obtain ⟨g1,v1⟩:=q;simp only [aJ] at e;all_goals exact lzy):P:=h
def I1(h:P:=by rename_i tN;obtain ⟨p,l,c,e1,hk⟩:=zlE J.hp hx h;rw [tN] at hy;simp only [Rep] at hy;all_goals exact lzy):P:=h
def I2(h:P:=by refine zbU 100 G I J (zks p hp hl) jf rfl (zV rfl) ju rfl jh iV iW jE iK ja ?_ ?_ ?_;all_goals exact lzy):P:=h
def I3(h:P:=by refine bod func96 ntmps96 (λbase=>?_);refine' walkW (zp ic e3 iB) (za zaN <| zb _);all_goals exact lzy):P:=h
def I4(h:P:=by obtain ⟨b,c,ty,fz,g1,g2,g3,g4⟩:=this;exact ⟨b,c,ty,fz,g1,g2,T.reps _ _ g3,g4⟩;all_goals exact lzy):P:=h
def I5(h:P:=by obtain ⟨a1,b1,rfl,g1,a2,b2,rfl,g2,a3,b3,rfl,g3,a4,b4,rfl,g4,a5,b5,rfl,g5,rfl⟩:=h;all_goals exact lzy):P:=h
def I6(h:P:=by have:=hu rfl;subst this;simp [undef];all_goals exact lzy):P:=h
def I7(h:P:=by
 have n0:(n.phase==3)=true:=by simpa using h3
 rw [zba,aa h3] at hV;refine' zc n0;rw [hV];all_goals exact lzy):P:=h
def I8(h:P:=by have hs:IntKind.i64.wrap (128 - ((a' % 128:Nat):Int))=((128 - a' % 128:Nat):Int):=iM;all_goals exact lzy):P:=h
def I9(h:P:=by have hb:((p.targets.length:Int)==0)=false:=iN;by_cases hs:4611686018427387904<=j.seq;all_goals exact lzy):P:=h
def Ja(h:P:=by
 have hb:(((s.getD i 0).toNat:Int) !=((H.getD i 0).toNat:Int))=false:=by rw [he];simp
 all_goals exact lzy):P:=h
def Jb(h:P:=by
 rcases gE with ⟨rfl,rfl⟩|⟨yl,kl,rfl,el⟩
 all_goals exact lzy):P:=h
def Jc(h:P:=by obtain ⟨x,h1,h2,h3⟩:=hs.slots t true _ hk;have hx:x= .slice none 0 0:=AH;subst hx;all_goals exact lzy):P:=h
def Jd(h:P:=by
 obtain ⟨m,rfl⟩:∃m',m=m'+1:=⟨m - 1,fT⟩
 all_goals exact lzy):P:=h
def Je(h:P:=by exact ⟨⟨_,_,_,rfl⟩,xs,iJ,fU,fT,λ_=> .inr (.inl ⟨w.heap.size,gM,gM⟩)⟩;all_goals exact lzy):P:=h
def Jf(h:P:=by exact ⟨v,kz,h2⟩;all_goals exact lzy):P:=h
def Jg(h:P:=by exact ⟨b,d,T,fz,h1,fU,Reps.step fU fU _ _ (λj _=>GoesOn.refl E s.h j) h3,h4⟩;all_goals exact lzy):P:=h
def Jh(h:P:=by exact ⟨b,d,T,fz,by rw [c.envO j e];omega,(c.blk b fU fU).trans h2,c.reps h3,h4⟩;all_goals exact lzy):P:=h
def Ji(h:P:=by simp only [Instr.fieldAt,ai,run_underlying hg,ah,pk,Instr.sureAddr,ar,zd6 J.1 J.2];all_goals exact lzy):P:=h
def Jj(h:P:=by rw [aa hb] at hg;have o7:IntKind.u64.wrap ((i+1:Nat):Int)=((i+1:Nat):Int):=zA fT fT;all_goals exact lzy):P:=h
def Jk(h:P:=by refine' walkW J (za zdR <| za zhf <| za zbM <| za zfJ <| za zhi <| za zfk <| zb _);all_goals exact lzy):P:=h
def Jl(h:P:=by refine ACall.whole (fl:=100) ?_ (zV rfl) fT uz;refine zD (λi=>decide (i<100)) ?_;all_goals exact lzy):P:=h
def Jm(h:P:=by obtain ⟨_,xs',g1,_,_,g2⟩:=hx;rw [hi] at g1;cases g1;have hob:=hs.hp.heap i' _ hi;all_goals exact lzy):P:=h
