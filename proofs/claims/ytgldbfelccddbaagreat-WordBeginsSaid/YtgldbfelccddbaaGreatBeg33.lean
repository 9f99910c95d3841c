/-
 A connection's beginning, the program's: the worker's methods.
-/
import Derived.Test.YtgldbfelccddbaaGreatBeg30
set_option maxRecDepth 100000
set_option maxHeartbeats 2000000
set_option linter.unusedSimpArgs false
set_option linter.unusedVariables false
namespace Go.Aw
open Go Go.Proofs
structure NW where
 n:Ng
 x:Xp
 k:Int
 d:Txt
 p:AV
 out:Txt
def nwC (s:NW):List AV:= [.d (.int .i64 s.n.phase),.d (.str s.n.buf),.d (.bool s.n.brief),.d (.bool s.n.chunks),.d (.sl 1 (s.n.metas.map u32D)),.d (.int .u64 s.x.size),.d (.sl 1 (s.x.names.map strD)),.d (.int .u32 s.k),.d (.str s.d),s.p,.bsl 5 s.out.length]
attribute [go_sem] nwC
abbrev nwH (s:NW):AHeap:= [(5,.buf 5 s.out),(3,.tvar 182 (nwC s))]
structure NwOk (s:NW):Prop where
 p:s.p= .d .nilp∨s.p= .tp 3 9
 out:s.out.length≤100000000000000
 k0:0≤s.k
 k1:s.k≤4294967295
 d:s.d.length≤4096
 z0:0≤s.x.size
 z1:s.x.size<18446744073709551616
 names:s.x.names.length≤1000
 name:∀t∈s.x.names,t.length≤1000
theorem zm0:liesAt Tryz.prog Tryz.prog.depth 182 (11 / Tryz.prog.cellsOf 182) 9 180 1=true:=by kernel_rfl
def nwW (s:NW) (t:Txt):NW:= { s with p:= .tp 3 9,out:=s.out++t }
def nwSay (s:NW) (kind:Int) (data:Txt):NW:=nwW s (sayS s.k kind data)
theorem zaT (o k:Int) (t:Txt):(sayS o k t).length≤4116:=by
 unfold sayS
 split
 ·exact Nat.zero_le _
 ·simp only [List.length_append,zcT]
  show 8+4+4+4+t.length≤4116
  omega
theorem zgJ (s:NW) (t:Txt) (h:NwOk s) (ht:t.length≤1000000):ACallAt Tryz.prog 6 113 [.tp 3 9,.d (.str t)] (nwH s) (fun r h'=>r= .tup [.d (.int .i64 t.length),.d .nilif]∧h'=nwH (nwW s t)):=by
 have hp:=h.p
 have ho:=h.out
 refine (zbn (i:=3) (j:=5) (o:=9) (T:=182) (cs:=nwC s) (xs:=s.out) (n:=s.out.length) rfl (hp.imp (fun e=>by simp [nwC,e]) (fun e=>by simp [nwC,e])) rfl rfl rfl zm0 (by omega)).mono ?_
 rintro r h' ⟨rfl,rfl⟩
 refine ⟨rfl,?_⟩
 simp [nwH,hset,nwC,nwW]
theorem zaI (s:NW) (kind:Int) (data:Txt) (h:NwOk s) (h0:0≤kind) (h1:kind≤4294967295):ACall Tryz.prog 176 6 [.tp 3 0,.d (.int .u32 kind),.d (.str data)] (nwH s) (fun r h'=>r= .tup []∧h'=nwH (nwSay s kind data)):=by
 have hk0:=h.k0
 have hk1:=h.k1
 have hl:=zaT s.k kind data
 refine bod Tryz.func176 Tryz.ntmps176 (fun base=>?_)
 refine' walkW fx (zb zeY <| za _)
 refine (zgJ s _ h (by omega)).mono ?_
 rintro r h' ⟨rfl,rfl⟩
 rfl
theorem zj0 (s:NW):ACall Tryz.prog 172 6 [.tp 3 0] (nwH s) (fun r h'=>r= .tup []∧h'=nwH { s with n:= { s.n with phase:=3,buf:= [] } }):=by
 refine bod Tryz.func172 Tryz.ntmps172 (fun base=>?_)
 refine' zc fx
 rfl
theorem zG {f:FuncId} {args:List AV} {s t:NW} {r0:AV} (hc:ACall Tryz.prog f 6 args (nwH s) (fun r h'=>r=r0∧h'=nwH t)):ACallAt Tryz.prog 6 f args (nwH s) (fun r h'=>r=r0∧h'=nwH t):=
 hc.whole (zat rfl) (Nat.le_refl _) (fun _ h' hk i hi=>by
  rw [hk.2]
  simp only [hget] at hi ⊢
  by_cases h5:5=i
  ·simp [h5]
  by_cases h3:3=i
  ·simp [h5,h3]
  simp [h5,h3] at hi)
theorem nw_cl {s:NW} (h:NwOk s):inH (nwH s) (idsH (nwH s)):=by
 rcases h.p with e|e<;>simp [inH,idsH,AObj.ids,AV.idsL,AV.ids,nwC,e,hget]
theorem zdM (s:NW) (t:Txt):ACall Tryz.prog 294 6 [.tp 3 0,.d (.str t)] (nwH s) (fun r h'=>r= .d (.bool (oursS t))∧h'=nwH s):=by
 refine bod Tryz.func294 Tryz.ntmps294 (fun base=>?_)
 refine' zc fx
 rfl
theorem zgK (s:NW) (h:NwOk s):ACall Tryz.prog 295 6 [.tp 3 0] (nwH s) (fun r h'=>r= .d (.str (sizeS s.x.size))∧h'=nwH s):=by
 have hz0:=h.z0
 have hz1:=h.z1
 have hl:(putS8 s.x.size 8).length=8:=by rw [zhu,zaQ]
 refine bod Tryz.func295 Tryz.ntmps295 (fun base=>?_)
 refine' walkW fx (zb zR <| za _)
 all_goals first|omega|rfl
theorem zdl (s:NW) (h:NwOk s):ACall Tryz.prog 296 6 [.tp 3 0] (nwH s) (fun r h'=>r= .d (.bool (s.d== []))∧h'=nwH (if s.d= [] then s else nwSay s 2147483651 [])):=by
 by_cases hd:s.d= []
 ·have hd2:(s.d != [])=false:=by simpa using hd
  rw [if_pos hd]
  refine bod Tryz.func296 Tryz.ntmps296 (fun base=>?_)
  refine' zc hd2
 ·have hd2:(s.d != [])=true:=by simpa using hd
  rw [if_neg hd]
  refine bod Tryz.func296 Tryz.ntmps296 (fun base=>?_)
  refine' zc hd2
  refine (zG (zaI s 2147483651 [] h (by decide) (by decide))).mono ?_
  rintro r h' ⟨rfl,rfl⟩
  refine' zc fx
  rfl
theorem NwOk.n {s:NW} (h:NwOk s) (m:Ng):NwOk { s with n:=m } :=⟨h.p,h.out,h.k0,h.k1,h.d,h.z0,h.z1,h.names,h.name⟩
theorem NwOk.say {s:NW} (h:NwOk s) {t:Txt} (ht:s.out.length+t.length≤100000000000000):NwOk (nwW s t):=
 ⟨.inr rfl,by simp only [nwW,List.length_append];exact ht,h.k0,h.k1,h.d,h.z0,h.z1,h.names,h.name⟩
def nwOpt (s:NW):NW:= { s with n:=ngClr (ngOpt s.n s.x s.k s.d).1,p:=if s.k=1∧oursS s.d=false then s.p else .tp 3 9,out:=s.out++(ngOpt s.n s.x s.k s.d).2 }
theorem zax {s:NW} {m:Ng} {t:Txt} (hk:s.k≠1) (e:ngOpt s.n s.x s.k s.d=(m,t)):nwOpt s= { s with n:=ngClr m,p:= .tp 3 9,out:=s.out++t } :=by
 rw [nwOpt,e,if_neg (fun e=>hk e.1)]
def z124:Txt:=List.replicate 124 0
theorem ziX:ACall Tryz.prog 253 0 [.d (.str [0]),.d (.int .i64 124)] [] (fun r _=>r= .d (.str z124)):=by
 exact znO 124 (by decide)
@[go_sem] noncomputable def zgL:Ent Tryz.prog 253:= .ofL (consL (zac (.d (.str [0]))) (consL (zac (.d (.int .i64 124))) nilL)) (fun (_,_,_)=>True) (fun (_,_,_)=> .d (.str z124)) (fun (_,_,_) hp=>⟨rfl,ziX⟩)
theorem zor (s:NW) (h:NwOk s) (ho:s.out.length≤10000000000000) (hk:s.k=1):ACall Tryz.prog 238 6 [.tp 3 0] (nwH s) (fun r h'=>r= .tup []∧h'=nwH (nwOpt s)):=by
 cases hd:oursS s.d with
 | false=>
  have e:nwOpt s= { s with n:= { s.n with phase:=3,buf:= [] } } :=by
   unfold nwOpt ngOpt
   rw [if_pos hk,if_pos hd,if_pos ⟨hk,hd⟩]
   simp [ngClr]
  rw [e]
  refine bod Tryz.func238 Tryz.ntmps238 (fun base=>?_)
  refine' zc fx
  refine (zG (zdM s s.d)).mono ?_
  rintro r h' ⟨rfl,rfl⟩
  simp only [go_sem,aeq,aeq.aeqF,simprocAttr,hd]
  refine' zc fx
  refine (zG (zj0 s)).mono ?_
  rintro r h' ⟨rfl,rfl⟩
  refine' zc fx
 | true=>
  have hu:=h.n { s.n with phase:=2 }
  have hl:(sizeS s.x.size).length=10:=by rw [sizeS,List.length_append,zhu,zaQ];rfl
  obtain ⟨v,hv⟩:∃v,v=nwW { s with n:= { s.n with phase:=2 } } (sizeS s.x.size):=⟨_,rfl⟩
  have hvk:NwOk v:=by rw [hv];exact hu.say (by show s.out.length+_≤_;omega)
  have hvb:v.n.brief=s.n.brief:=by rw [hv];rfl
  have e:nwOpt s=if s.n.brief=true then v else nwW v z124:=by
   unfold nwOpt ngOpt
   rw [if_pos hk,if_neg (show ¬oursS s.d=false by rw [hd];decide),if_neg (show ¬(s.k=1∧oursS s.d=false) by rw [hd];simp)]
   by_cases hb:s.n.brief=true
   ·rw [if_pos hb,hv];simp [ngClr,nwW,hb]
   ·rw [if_neg hb,hv];simp [ngClr,nwW,hb,z124]
  have hz:(z124).length=124:=List.length_replicate ..
  cases hb:s.n.brief
  all_goals
   rw [hb] at hvb e
   simp only [if_pos rfl,Bool.false_eq_true,if_false] at e
   rw [e]
   refine bod Tryz.func238 Tryz.ntmps238 (fun base=>?_)
   refine' zc fx
   refine (zG (zdM s s.d)).mono ?_
   rintro r h' ⟨rfl,rfl⟩
   simp only [go_sem,aeq,aeq.aeqF,simprocAttr,hd]
   refine' zeI (ownsL [0,2000295]) fx
   refine ⟨nwH { s with n:= { s.n with phase:=2 } },6,_,rfl,⟨rfl,rfl,trivial⟩,nw_cl hu,⟨rfl,trivial⟩,zgK _ hu,?_⟩
   simp only [go_sem,aeq,aeq.aeqF,simprocAttr]
   refine' zeI (ownsL [0]) fx
   refine (zgJ { s with n:= { s.n with phase:=2 } } _ hu (by omega)).mono ?_
   rintro r h' ⟨rfl,rfl⟩
   rw [← hv]
  ·refine' zlN (ownsL [0]) hvb (zb zgL <| za _)
   refine (zgJ v _ hvk (by omega)).mono ?_
   rintro r h' ⟨rfl,rfl⟩
   refine' zc fx
   rfl
  ·refine' zc hvb
theorem zm1 (s:NW) (h:NwOk s) (hk:s.k=2):ACall Tryz.prog 239 6 [.tp 3 0] (nwH s) (fun r h'=>r= .tup []∧h'=nwH (nwOpt s)):=by
 have e:nwOpt s= { nwSay s 1 [] with n:= { s.n with phase:=3,buf:= [] } } :=by
  rw [zax (m:= { s.n with phase:=3 }) (t:=sayS s.k 1 []) (by omega) (by unfold ngOpt;rw [if_neg (by omega),if_pos hk])]
  rfl
 rw [e]
 refine bod Tryz.func239 Tryz.ntmps239 (fun base=>?_)
 refine' zc fx
 refine (zG (zaI s 1 [] h (by decide) (by decide))).mono ?_
 rintro r h' ⟨rfl,rfl⟩
 refine' zc fx
 refine (zG (zj0 (nwSay s 1 []))).mono ?_
 rintro r h' ⟨rfl,rfl⟩
 refine' zc fx
 rfl
theorem zos (s:NW) (h:NwOk s) (ho:s.out.length≤10000000000000) (hp:s.n.phase=1) (hk:s.k=3):ACall Tryz.prog 240 6 [.tp 3 0] (nwH s) (fun r h'=>r= .tup []∧h'=nwH (nwOpt s)):=by
 have hc0:ngClr s.n=s.n:=if_neg (by omega)
 have hl1:=zaT s.k 2 (zca [100,105,115,107])
 by_cases hd:s.d= []
 ·have hd2:(s.d== [])=true:=by simpa using hd
  have e:nwOpt s=nwSay (nwSay s 2 (zca [100,105,115,107])) 1 []:=by
   rw [zax (m:=s.n) (t:=sayS s.k 2 (zca [100,105,115,107])++sayS s.k 1 []) (by omega) (by unfold ngOpt;rw [if_neg (by omega),if_neg (by omega),if_pos hk,if_neg (fun e=>e hd)]),hc0]
   simp [nwSay,nwW]
  rw [e]
  refine bod Tryz.func240 Tryz.ntmps240 (fun base=>?_)
  refine' zc fx
  refine (zG (zdl s h)).mono ?_
  rintro r h' ⟨rfl,rfl⟩
  simp only [if_pos hd,hd2]
  refine' walkW fx (zb zaM <| za _)
  refine (zG (zaI s 2 _ h (by decide) (by decide))).mono ?_
  rintro r h' ⟨rfl,rfl⟩
  refine' walkW fx (zb zaM <| za _)
  refine (zG (zaI (nwSay s 2 (zca [100,105,115,107])) 1 [] (h.say (by omega)) (by decide) (by decide))).mono ?_
  rintro r h' ⟨rfl,rfl⟩
  refine' walkW fx (zb zaM <| za _)
  rfl
 ·have hd2:(s.d== [])=false:=by simpa using hd
  have e:nwOpt s=nwSay s 2147483651 []:=by
   rw [zax (m:=s.n) (t:=sayS s.k 2147483651 []) (by omega) (by unfold ngOpt;rw [if_neg (by omega),if_neg (by omega),if_pos hk,if_pos hd]),hc0]
   rfl
  rw [e]
  refine bod Tryz.func240 Tryz.ntmps240 (fun base=>?_)
  refine' zc fx
  refine (zG (zdl s h)).mono ?_
  rintro r h' ⟨rfl,rfl⟩
  simp only [if_neg hd,hd2]
  refine' walkW fx (zb zaM <| za _)
theorem zkT (s:NW) (h:NwOk s) (ho:s.out.length≤10000000000000) (hp:s.n.phase=1) (hk:s.k=8):ACall Tryz.prog 242 6 [.tp 3 0] (nwH s) (fun r h'=>r= .tup []∧h'=nwH (nwOpt s)):=by
 have hc0:ngClr s.n=s.n:=if_neg (by omega)
 by_cases hd:s.d= []
 ·have hd2:(s.d== [])=true:=by simpa using hd
  have e:nwOpt s=nwSay { s with n:= { s.n with chunks:=true } } 1 []:=by
   rw [zax (m:= { s.n with chunks:=true }) (t:=sayS s.k 1 []) (by omega) (by unfold ngOpt;rw [if_neg (by omega),if_neg (by omega),if_neg (by omega),if_neg (by omega),if_pos hk,if_neg (fun e=>e hd)])]
   rw [show ngClr { s.n with chunks:=true } = { s.n with chunks:=true } from if_neg (show ¬s.n.phase=3 by omega)]
   rfl
  rw [e]
  refine bod Tryz.func242 Tryz.ntmps242 (fun base=>?_)
  refine' zc fx
  refine (zG (zdl s h)).mono ?_
  rintro r h' ⟨rfl,rfl⟩
  simp only [if_pos hd,hd2]
  refine' zc fx
  refine (zG (zaI { s with n:= { s.n with chunks:=true } } 1 [] (h.n _) (by decide) (by decide))).mono ?_
  rintro r h' ⟨rfl,rfl⟩
  refine' zc fx
  rfl
 ·have hd2:(s.d== [])=false:=by simpa using hd
  have e:nwOpt s=nwSay s 2147483651 []:=by
   rw [zax (m:=s.n) (t:=sayS s.k 2147483651 []) (by omega) (by unfold ngOpt;rw [if_neg (by omega),if_neg (by omega),if_neg (by omega),if_neg (by omega),if_pos hk,if_pos hd]),hc0]
   rfl
  rw [e]
  refine bod Tryz.func242 Tryz.ntmps242 (fun base=>?_)
  refine' zc fx
  refine (zG (zdl s h)).mono ?_
  rintro r h' ⟨rfl,rfl⟩
  simp only [if_neg hd,hd2]
  refine' zc fx
end Go.Aw
