/-
 A connection's beginning, the program's: the worker's methods.
-/
import Derived.Test.YtgldbfelccddbaaGreatApa32
set_option linter.all false
set_option maxRecDepth 100000
set_option maxHeartbeats 2000000
namespace Go.Aw
open Go Go.Proofs Go.Proofs.Tryz
structure NW where
 n:Ng
 x:Xp
 k:Int
 d:Txt
 p:AV
 out:Txt
def nwC (s:NW):List AV:= [.d (.int .i64 s.n.phase),.d (.str s.n.buf),.d (.bool s.n.brief),.d (.bool s.n.chunks),.d (.sl 1 (s.n.metas.map u32D)),.d (.int .u64 s.x.size),.d (.sl 1 (s.x.names.map strD)),.d (.int .u32 s.k),.d (.str s.d),s.p,.bsl 5 s.out.length]
attribute [go_sem] nwC
abbrev nwH (s:NW):AHeap:= [(5,.buf 5 s.out),(3,.tvar 182 (nwC s))]
structure NwOk (s:NW):Prop where
 p:s.p= .d .nilp\/s.p= .tp 3 9
 out:s.out.length<=100000000000000
 k0:0<=s.k
 k1:s.k<=4294967295
 d:s.d.length<=4096
 z0:0<=s.x.size
 z1:s.x.size<18446744073709551616
 names:s.x.names.length<=1000
 name:∀t∈s.x.names,t.length<=1000
def zx8:liesAt Tryz.prog Tryz.prog.depth 182 (11 / Tryz.prog.cellsOf 182) 9 180 1=true:=fX
def nwW (s:NW) (t:Txt):NW:= { s with p:= .tp 3 9,out:=s.out++t }
def nwSay (s:NW) (kind:Int) (data:Txt):NW:=nwW s (sayS s.k kind data)
def zcg (o k:Int) (t:Txt):(sayS o k t).length<=4116:=by
 unfold sayS;split
 .exact ad _
 .simp only [ae,zd0];show 8+4+4+4+t.length<=4116;omega
def zns (s:NW) (t:Txt) (h:NwOk s) (J:t.length<=1000000):ACallAt Tryz.prog 6 113 [.tp 3 9,.d (.str t)] (nwH s) (λr h'=>r= .tup [.d (.int .i64 t.length),.d .nilif]/\h'=nwH (nwW s t)):=by have hp:=h.p;have ho:=h.out;refine (zdv (i:=3) (j:=5) (o:=9) (T:=182) (cs:=nwC s) (xs:=s.out) (n:=s.out.length) rfl (hp.imp (λe=>by simp [nwC,e]) (λe=>by simp [nwC,e])) rfl rfl rfl zx8 fT).mono ?_;refine' Cp;refine ⟨rfl,?_⟩;simp [nwH,hset,nwC,nwW]
def zdK (s:NW) (kind:Int) (data:Txt) (h:NwOk s) (h0:0<=kind) (h1:kind<=4294967295):ACall Tryz.prog 176 6 [.tp 3 0,.d (.int .u32 kind),.d (.str data)] (nwH s) (λr h'=>r= .tup []/\h'=nwH (nwSay s kind data)):=by refine' Gg;refine (zns s _ h fT).mono ?_;refine' Cp;rfl
def ztu (s:NW):ACall Tryz.prog 172 6 [.tp 3 0] (nwH s) (λr h'=>r= .tup []/\h'=nwH { s with n:= { s.n with phase:=3,buf:= [] } }):=by refine bod func172 ntmps172 (λbase=>?_);refine' Ds;rfl
def zaH {f:FuncId} {args:List AV} {s t:NW} {r0:AV} (hc:ACall Tryz.prog f 6 args (nwH s) (λr h'=>r=r0/\h'=nwH t)):ACallAt Tryz.prog 6 f args (nwH s) (λr h'=>r=r0/\h'=nwH t):=
 hc.whole (zV rfl) (aj _) (λ_ h' hk i hi=>by
  rw [hk.2];simp only [hget] at hi |-;by_cases J:5=i
  .simp [J]
  by_cases h3:3=i
  .simp [J,h3]
  simp [J,h3] at hi)
def nw_cl {s:NW} (h:NwOk s):inH (nwH s) (idsH (nwH s)):=by
 rcases h.p with e|e<;>simp [inH,idsH,AObj.ids,AV.idsL,AV.ids,nwC,e,hget]
def zi0 (s:NW) (t:Txt):ACall Tryz.prog 294 6 [.tp 3 0,.d (.str t)] (nwH s) (λr h'=>r= .d (.bool (oursS t))/\h'=nwH s):=by refine bod func294 ntmps294 (λbase=>?_);refine' Ds;rfl
def znt (s:NW) (h:NwOk s):ACall Tryz.prog 295 6 [.tp 3 0] (nwH s) (λr h'=>r= .d (.str (sizeS s.x.size))/\h'=nwH s):=by
 have jA:=h.z0;have lR:=h.z1;have J:(putS8 s.x.size 8).length=8:=by rw [zgw,zu]
 refine bod func295 ntmps295 (λbase=>?_);refine' walkW fx (za zaJ <| zb _);all_goals first|omega|rfl
def zil (s:NW) (h:NwOk s):ACall Tryz.prog 296 6 [.tp 3 0] (nwH s) (λr h'=>r= .d (.bool (s.d== []))/\h'=nwH (if s.d= [] then s else nwSay s 2147483651 [])):=by
 by_cases J:s.d= []
 .have jk:(s.d != [])=false:=by simpa using J
  rw [aa J];refine bod func296 ntmps296 (λbase=>?_);refine' zc jk
 .have jk:(s.d != [])=true:=by simpa using J
  rw [U J];refine bod func296 ntmps296 (λbase=>?_);refine' zc jk;refine' Ix;refine' Cp;refine' Ds;rfl
def NwOk.n {s:NW} (h:NwOk s) (m:Ng):NwOk { s with n:=m } :=⟨h.p,h.out,h.k0,h.k1,h.d,h.z0,h.z1,h.names,h.name⟩
def NwOk.say {s:NW} (h:NwOk s) {t:Txt} (J:s.out.length+t.length<=100000000000000):NwOk (nwW s t):=
 ⟨.inr rfl,by simp only [nwW,ae];exact J,h.k0,h.k1,h.d,h.z0,h.z1,h.names,h.name⟩
def nwOpt (s:NW):NW:= { s with n:=ngClr (ngOpt s.n s.x s.k s.d).1,p:=if s.k=1/\oursS s.d=false then s.p else .tp 3 9,out:=s.out++(ngOpt s.n s.x s.k s.d).2 }
def zdc {s:NW} {m:Ng} {t:Txt} (J:s.k≠1) (e:ngOpt s.n s.x s.k s.d=(m,t)):nwOpt s= { s with n:=ngClr m,p:= .tp 3 9,out:=s.out++t } :=by
 rw [nwOpt,e,U (λe=>J e.1)]
def z124:Txt:=List.replicate 124 0
def zrA:ACall Tryz.prog 253 0 [.d (.str [0]),.d (.int .i64 124)] [] (λr _=>r= .d (.str z124)):=by
 exact zsL 124 gb
@[go_sem] noncomputable def znu:Ent Tryz.prog 253:= .ofL (consL (zav (.d (.str [0]))) (consL (zav (.d (.int .i64 124))) nilL)) (λ(_,_,_)=>True) (λ(_,_,_)=> .d (.str z124)) (λ(_,_,_) hp=>⟨rfl,zrA⟩)
def zAX (s:NW) (h:NwOk s) (ho:s.out.length<=10000000000000) (hk:s.k=1):ACall Tryz.prog 238 6 [.tp 3 0] (nwH s) (λr h'=>r= .tup []/\h'=nwH (nwOpt s)):=by
 cases J:oursS s.d with
 | false=>
  have e:nwOpt s= { s with n:= { s.n with phase:=3,buf:= [] } } :=by unfold nwOpt ngOpt;rw [aa hk,aa J,aa ⟨hk,J⟩];simp [ngClr]
  rw [e];refine bod func238 ntmps238 (λbase=>?_);refine' Ds;refine (zaH (zi0 s s.d)).mono ?_;refine' Cp;simp only [go_sem,aeq,aeq.aeqF,simprocAttr,J];refine' Ds;refine (zaH (ztu s)).mono ?_;refine' Cp;refine' Ds
 | true=>
  have hu:=h.n { s.n with phase:=2 };have hl:(sizeS s.x.size).length=10:=qO;obtain ⟨v,hv⟩:∃v,v=nwW { s with n:= { s.n with phase:=2 } } (sizeS s.x.size):=⟨_,rfl⟩
  have yS:NwOk v:=by rw [hv];exact hu.say (by show s.out.length+_<=_;omega)
  have tV:v.n.brief=s.n.brief:=by rw [hv];rfl
  have e:nwOpt s=if s.n.brief=true then v else nwW v z124:=by
   unfold nwOpt ngOpt;rw [aa hk,U (show ¬oursS s.d=false by rw [J];decide),U (show ¬(s.k=1/\oursS s.d=false) by rw [J];simp)];by_cases hb:s.n.brief=true
   .rw [aa hb,hv];simp [ngClr,nwW,hb]
   .rw [U hb,hv];simp [ngClr,nwW,hb,z124]
  have hz:(z124).length=124:=bB ..;cases hb:s.n.brief
  all_goals
   rw [hb] at tV e;simp only [aa rfl,bj,aK] at e;rw [e];refine bod func238 ntmps238 (λbase=>?_);refine' Ds;refine (zaH (zi0 s s.d)).mono ?_;refine' Cp;simp only [go_sem,aeq,aeq.aeqF,simprocAttr,J];refine' zhS (ownsL [0,2000295]) fx;refine ⟨nwH { s with n:= { s.n with phase:=2 } },6,_,rfl,⟨rfl,rfl,trivial⟩,nw_cl hu,⟨rfl,trivial⟩,znt _ hu,?_⟩;refine' Cl;refine' zhS (ownsL [0]) fx;refine (zns { s with n:= { s.n with phase:=2 } } _ hu fT).mono ?_;refine' Cp;rw [<-hv]
  .refine' zgu (ownsL [0]) tV (za znu <| zb _);refine (zns v _ yS fT).mono ?_;refine' Cp;refine' Ds;rfl
  .refine' zc tV
def zx9 (s:NW) (h:NwOk s) (J:s.k=2):ACall Tryz.prog 239 6 [.tp 3 0] (nwH s) (λr h'=>r= .tup []/\h'=nwH (nwOpt s)):=by
 have e:nwOpt s= { nwSay s 1 [] with n:= { s.n with phase:=3,buf:= [] } } :=by rw [zdc (m:= { s.n with phase:=3 }) (t:=sayS s.k 1 []) fT (by unfold ngOpt;rw [U fT,aa J])];rfl
 rw [e];refine bod func239 ntmps239 (λbase=>?_);refine' Ds;refine (zaH (zdK s 1 [] h gb gb)).mono ?_;refine' Cp;refine' Ds;refine (zaH (ztu (nwSay s 1 []))).mono ?_;refine' Cp;refine' Ds;rfl
def zAY (s:NW) (h:NwOk s) (ho:s.out.length<=10000000000000) (hp:s.n.phase=1) (hk:s.k=3):ACall Tryz.prog 240 6 [.tp 3 0] (nwH s) (λr h'=>r= .tup []/\h'=nwH (nwOpt s)):=by
 have ab:ngClr s.n=s.n:=U fT;have jv:=zcg s.k 2 (zfP [100,105,115,107]);by_cases J:s.d= []
 .have jk:(s.d== [])=true:=by simpa using J
  have e:nwOpt s=nwSay (nwSay s 2 (zfP [100,105,115,107])) 1 []:=by rw [zdc (m:=s.n) (t:=sayS s.k 2 (zfP [100,105,115,107])++sayS s.k 1 []) fT (by unfold ngOpt;rw [U fT,U fT,aa hk,U (λe=>e J)]),ab];simp [nwSay,nwW]
  rw [e];refine bod func240 ntmps240 (λbase=>?_);refine' Ds;refine (zaH (zil s h)).mono ?_;refine' Cp;simp only [aa J,jk];refine' walkW fx (za zd1 <| zb _);refine (zaH (zdK s 2 _ h gb gb)).mono ?_;refine' Cp;refine' walkW fx (za zd1 <| zb _);refine (zaH (zdK (nwSay s 2 (zfP [100,105,115,107])) 1 [] (h.say fT) gb gb)).mono ?_;refine' Cp;refine' walkW fx (za zd1 <| zb _);rfl
 .have jk:(s.d== [])=false:=by simpa using J
  have e:nwOpt s=nwSay s 2147483651 []:=by rw [zdc (m:=s.n) (t:=sayS s.k 2147483651 []) fT (by unfold ngOpt;rw [U fT,U fT,aa hk,aa J]),ab];rfl
  rw [e];refine bod func240 ntmps240 (λbase=>?_);refine' Ds;refine (zaH (zil s h)).mono ?_;refine' Cp;simp only [U J,jk];refine' walkW fx (za zd1 <| zb _)
def zu7 (s:NW) (h:NwOk s) (ho:s.out.length<=10000000000000) (hp:s.n.phase=1) (hk:s.k=8):ACall Tryz.prog 242 6 [.tp 3 0] (nwH s) (λr h'=>r= .tup []/\h'=nwH (nwOpt s)):=by
 have ab:ngClr s.n=s.n:=U fT;by_cases J:s.d= []
 .have jk:(s.d== [])=true:=by simpa using J
  have e:nwOpt s=nwSay { s with n:= { s.n with chunks:=true } } 1 []:=by rw [zdc (m:= { s.n with chunks:=true }) (t:=sayS s.k 1 []) fT (by unfold ngOpt;rw [U fT,U fT,U fT,U fT,aa hk,U (λe=>e J)])];rw [show ngClr { s.n with chunks:=true } = { s.n with chunks:=true } from U (show ¬s.n.phase=3 by omega)];rfl
  rw [e];refine bod func242 ntmps242 (λbase=>?_);refine' Ds;refine (zaH (zil s h)).mono ?_;refine' Cp;simp only [aa J,jk];refine' Ds;refine (zaH (zdK { s with n:= { s.n with chunks:=true } } 1 [] (h.n _) gb gb)).mono ?_;refine' Cp;refine' Ds;rfl
 .have jk:(s.d== [])=false:=by simpa using J
  have e:nwOpt s=nwSay s 2147483651 []:=by rw [zdc (m:=s.n) (t:=sayS s.k 2147483651 []) fT (by unfold ngOpt;rw [U fT,U fT,U fT,U fT,aa hk,aa J]),ab];rfl
  rw [e];refine bod func242 ntmps242 (λbase=>?_);refine' Ds;refine (zaH (zil s h)).mono ?_;refine' Cp;simp only [U J,jk];refine' Ds
end Go.Aw
