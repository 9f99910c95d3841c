/-
 Parts of the proof: lemmas.
-/
import Derived.Test.YtgldbfelccddbaaGreatPart35
import Derived.Test.YtgldbfelccddbaaGreatPart32
set_option maxRecDepth 100000
set_option maxHeartbeats 2000000
set_option linter.unusedSimpArgs false
set_option linter.unusedVariables false
namespace Go.Aw
open Go Go.Proofs Go.Proofs.YtgldbfelccddbaaGreat
def optFs:List FuncId:= [238,239,240,241,241,242,243,243]
def optKs:List D:= [.int .u32 1,.int .u32 2,.int .u32 3,.int .u32 6,.int .u32 7,.int .u32 8,.int .u32 9,.int .u32 10]
def optA (i:Nat):AV:= .amap optKs (optFs.map fun f=> .fn (.func f) [.tp i 0] [])
theorem zuh {W:World} {E:Env} {h:AHeap} {i:Nat} {v:Value} (hr:Rep W E h (.tp i 0) v):∀l:List FuncId,Reps W E h (l.map fun f=> .fn (.func f) [.tp i 0] []) (l.map fun f=>Value.func (.func f) #[v] #[])
 | []=>bO
 |f::l=>by
  simp only [List.map_cons,Reps]
  refine ⟨_,_,rfl,?_,zuh hr l⟩
  simp only [Rep,Reps]
  exact ⟨_,_,rfl,⟨_,_,rfl,hr,rfl⟩,rfl⟩
theorem zrn {fl i:Nat} {h:AHeap} {T:TypeId} {cs:List AV} (hi:hget h i=some (.tvar T cs)):ACallAt Tryz.prog fl 174 [.tp i 0] h (fun r h'=>r=optA i∧h'=h):=by
  refine ⟨zdp Tryz.func174 ad rfl,fun E w vs hs hr=>?_⟩
  simp only [Reps] at hr
  obtain ⟨v0,r0,e0,q0,rfl⟩:=hr
  have q0':=q0
  simp only [Rep] at q0
  obtain ⟨b,T',cs',hi',hb,rfl⟩:=q0
  have hvs:vs= #[.pointer (some ⟨b,0,none⟩)]:=bX
  subst hvs
  refine (zli ⟨b,0,none⟩ w).mono ?_
  rintro e w3 ⟨rfl,mes,c,rfl,hks,hvs⟩
  have hfr:=zbB fl h
  have ch:Chg E h w E h (w.alloc (.map mes c)) (fresh fl h):=
    { os:=rfl,tape:=rfl,output:=rfl,size:=aa,envO:=fun _ _=>rfl,envC:=fun _ _=>rfl,M:=rfl,N:=rfl,hh:=fun _ _=>rfl,
      gi:=by simp [GoesOn,hfr]
      blk:=fun k hk _=>zcr w _ hk
      new:=fun k hs' _=>by rw [hfr] at hs';cases hs' }
  have hs2:=ch.satH hs (fun ob hob=>by rw [hfr] at hob;cases hob)
  refine ⟨_,_,_,_,rfl,⟨rfl,rfl⟩,hs2,?_,ch.evoC (.inr (zaM _ _)),fun x y hxy=>ch.rep hxy⟩
  simp only [optA,Rep]
  refine ⟨w.heap.size,mes,c,rfl,?_,by rw [World.alloc_heap_new],by rw [hks];rfl,?_⟩
  · rintro (hx|hx|hx)
    · exact Nat.lt_irrefl _ (hs.own _ hx).1
    · exact Nat.lt_irrefl _ (hs.mlt _ hx)
    · exact Nat.lt_irrefl _ (hs.nlt _ hx)
  · rw [hvs]
    exact zuh (ch.rep q0') optFs
theorem ACallAt.below {P:Program} {f:FuncId} {args:List AV} {fl:Nat} {h:AHeap} {K:AV→AHeap→Prop} (hc:ACallAt P fl f args h K):ACall P f fl args h K:=by
 refine ⟨hc.1,fun E w vs hs hr=>(hc.2 E w vs hs hr).mono ?_⟩
 rintro e w' ⟨v,E',r,h',h1,h2,h3,h4,h5,_⟩
 exact ⟨v,E',r,h',h1,h2,h3,h4,h5⟩
theorem zjX (s:NW):ACall Tryz.prog 174 6 [.tp 3 0] (nwH s) (fun r h'=>r=optA 3∧h'=nwH s):=(zrn (T:=182) (cs:=nwC s) rfl).below
theorem zx5 (s:NW) (h:NwOk s):ACall Tryz.prog 175 7 [.vp 6 0] ((6,.var [.tp 3 0])::nwH s) (fun r h'=>r= .tup []∧h'=(6,.var [.tp 3 0])::nwH (nwSay s 2147483649 [])):=by
 refine bod Tryz.func175 Tryz.ntmps175 (fun base=>?_)
 refine' zc fx
 refine (zb4 (zcv s 2147483649 [] h ae ae) rfl ⟨rfl,rfl,trivial⟩ (nw_cl h) ⟨rfl,trivial⟩ rfl).mono ?_
 rintro r h' ⟨rfl,rfl⟩
 rfl
theorem zx6 (s:NW) (h:NwOk s) (ho:s.out.length≤10000000000000) (hp:s.n.phase=1):
  (∃j f,aix (.int .u32 s.k) optKs=some j∧(optFs.map fun f=>AV.fn (.func f) [.tp 3 0] []).getD j .any= .fn (.func f) [.tp 3 0] []∧ACall Tryz.prog f 6 [.tp 3 0] (nwH s) (fun r h'=>r= .tup []∧h'=nwH (nwOpt s)))∨(aix (.int .u32 s.k) optKs=none∧nwOpt s=nwSay s 2147483649 []):=by
 by_cases k1:s.k=1
 ·exact .inl ⟨_,_,by rw [k1];rfl,rfl,zwr s h ho k1⟩
 by_cases k2:s.k=2
 ·exact .inl ⟨_,_,by rw [k2];rfl,rfl,zub s h k2⟩
 by_cases k3:s.k=3
 ·exact .inl ⟨_,_,by rw [k3];rfl,rfl,zws s h ho hp k3⟩
 by_cases k6:s.k=6
 ·exact .inl ⟨_,_,by rw [k6];rfl,rfl,zp5 s h ho hp (.inl k6)⟩
 by_cases k7:s.k=7
 ·exact .inl ⟨_,_,by rw [k7];rfl,rfl,zp5 s h ho hp (.inr k7)⟩
 by_cases k8:s.k=8
 ·exact .inl ⟨_,_,by rw [k8];rfl,rfl,zrk s h ho hp k8⟩
 by_cases k9:s.k=9
 ·exact .inl ⟨_,_,by rw [k9];rfl,rfl,zrm s h ho hp k9⟩
 by_cases k10:s.k=10
 ·exact .inl ⟨_,_,by rw [k10];rfl,rfl,zoF s h ho hp k10⟩
 refine .inr ⟨?_,?_⟩
 ·simp [optKs,aix,sameS,k1,k2,k3,k6,k7,k8,k9,k10]
 ·rw [zcd (m:=s.n) (t:=sayS s.k 2147483649 []) k1 (by unfold ngOpt;rw [if_neg k1,if_neg k2,if_neg k3,if_neg U,if_neg k8,if_neg U])]
  rw [show ngClr s.n=s.n from if_neg U]
  rfl
def ngFlg (n:Ng):Ng:= { n with buf:=n.buf.drop 4,phase:=if numAt n.buf 0 4=1∨numAt n.buf 0 4=3 then 1 else 3,brief:=numAt n.buf 0 4==3 }
def nwFlg (s:NW):NW:=if s.n.buf.length<4 then s else { s with n:=ngClr (ngFlg s.n) }
theorem zwu (s:NW) (hb:s.n.buf.length≤100000000000000):ACall Tryz.prog 96 6 [.tp 3 0] (nwH s) (fun r h'=>r= .d (.bool (decide (4≤s.n.buf.length)))∧h'=nwH (nwFlg s)):=by
 have hZk:takeS s.n.buf 4=if s.n.buf.length<4 then (0,[],22) else (((numAt s.n.buf 0 4:Nat):Int),s.n.buf.drop 4,0):=by
  rw [takeS,if_neg ae]
  by_cases h4:s.n.buf.length<4
  ·rw [if_pos h4,if_pos U]
  ·rw [if_neg h4,if_neg U];rfl
 by_cases h4:s.n.buf.length<4
 ·rw [if_pos h4] at hZk
  have hd:decide (4≤s.n.buf.length)=false:=decide_eq_false U
  have e:nwFlg s=s:=if_pos h4
  rw [e]
  refine bod Tryz.func96 Tryz.ntmps96 (fun base=>?_)
  refine' walkW hZk (za zbN <| zb _)
  rw [hd]
 ·rw [if_neg h4] at hZk
  have hd:decide (4≤s.n.buf.length)=true:=decide_eq_true U
  have e:nwFlg s= { s with n:=ngClr (ngFlg s.n) } :=if_neg h4
  rw [e]
  obtain ⟨N,hN⟩:∃N,N=numAt s.n.buf 0 4:=⟨_,rfl⟩
  have eg:ngClr (ngFlg s.n)=ngClr { s.n with buf:=s.n.buf.drop 4,phase:=if N=1∨N=3 then 1 else 3,brief:=N==3 } :=by rw [hN];rfl
  rw [← hN] at hZk
  rw [eg]
  have e3:((N:Int)==3)=(N==3):=by
   by_cases e:N=3
   ·rw [e];rfl
   ·rw [beq_false_of_ne e,beq_false_of_ne (show (N:Int)≠3 by omega)]
  by_cases hk:N=1∨N=3
  ·rw [if_pos hk]
   have hcc:((N:Int) !=1&&(N:Int) !=3)=false:=by rcases hk with rfl|rfl<;>rfl
   rw [ngClr,if_neg (by show ¬(1:Int)=3;decide)]
   refine bod Tryz.func96 Tryz.ntmps96 (fun base=>?_)
   refine' walkW (zq hZk e3 hcc) (za zbN <| zb _)
   all_goals first|rw [hd]|rfl
  ·rw [if_neg hk]
   have hcc:((N:Int) !=1&&(N:Int) !=3)=true:=af
   rw [ngClr,if_pos rfl]
   refine bod Tryz.func96 Tryz.ntmps96 (fun base=>?_)
   refine' walkW (zq hZk e3 hcc) (za zbN <| zb _)
   refine (zam (zp4 { s with n:= { s.n with buf:=s.n.buf.drop 4,phase:=1,brief:=N==3 } })).mono ?_
   rintro r h' ⟨rfl,rfl⟩
   refine' walkW (zq hZk e3 hcc) (za zbN <| zb _)
   all_goals first|rw [hd]|rfl
open Go Go.Proofs
def nwGot (s:NW):NW:= { s with n:= { s.n with buf:=(optRd s.n.buf).2.1 },k:=(optRd s.n.buf).1.1,d:=(optRd s.n.buf).1.2 }
def zd8 (s:NW):NW:=if (optRd s.n.buf).2.2=22 then s else if (optRd s.n.buf).2.2≠0 then { s with n:= { s.n with phase:=3,buf:= [] } } else nwOpt (nwGot s)
theorem NwOk.got {s:NW} (h:NwOk s) (he:(optRd s.n.buf).2.2=0):NwOk (nwGot s):=by
 obtain ⟨_,_,h3,e⟩:=zd7 he
 have hlt:=za1 s.n.buf 8 4
 refine ⟨h.p,h.out,?_,?_,?_,h.z0,h.z1,h.names,h.name⟩
 ·simp only [nwGot,e];omega
 ·simp only [nwGot,e]
  have:256 ^ 4=4294967296:=ae
  omega
 ·simp only [nwGot,e,List.length_take];omega
theorem nw_pi {s:NW} (h:NwOk s):(s.p.ids.all fun i=>decide (i<6))=true:=by
 rcases h.p with e|e<;>rw [e]<;>rfl
theorem zmP {n:Ng} {x:Xp} {kk:Int} {d:Txt} (hc:(ctxs x.names).length≤1001):(ngOpt n x kk d).2.length≤10000000:=by
 have hs:∀k t,(sayS kk k t).length≤4116:=fun k t=>zby ..
 have hz:(sizeS x.size).length=10:=ct
 have hm:∀ (l:List Txt) (k:Nat) (C:List Txt) (t:Txt) (ids:List Int),(zao kk l k C t ids).1.length≤t.length+4116*C.length:=by
  intro l k C
  induction C generalizing k with
  |nil=>intro t ids;simp [zao]
  | cons c C ih=>
   intro t ids
   rw [zao]
   have:=hs 4 (putS8 ((k+1:Nat):Int) 4++c)
   split
   ·refine Nat.le_trans (ih _ _ _) ?_
    rw [List.length_append,List.length_cons];omega
   ·refine Nat.le_trans (ih _ _ _) ?_
    rw [List.length_cons];omega
 unfold ngOpt za5
 repeat' split
 all_goals
  dsimp only
  first
  |(simp only [List.length_nil];omega)
  |(exact Nat.le_trans (hs _ _) U)
  |simp only [List.length_append]
 all_goals
  first
  |(rw [hz];simp only [List.length_nil,List.length_replicate];omega)
  |(have h1:=hs 2 (zd4 [100,105,115,107]);have h2:=hs 1 [];omega)
  |(have h1:=hs 3 ([0,0]++sizeS x.size);have h2:=hs 1 [];omega)
  |(have h1:=hm (zbq d).2.1 0 (ctxs x.names) [] [];have h2:=hs 1 [];simp only [List.length_nil] at h1;omega)
theorem ziI {s:NW} (h:NwOk s):(ngOpt s.n s.x s.k s.d).2.length≤10000000:=zmP (zlg h).1
theorem zp9 {s:NW} (h:NwOk s) (ho:s.out.length≤10000000000000):NwOk (nwOpt s):=by
 have hl:=ziI h
 refine ⟨?_,?_,h.k0,h.k1,h.d,h.z0,h.z1,h.names,h.name⟩
 ·unfold nwOpt
  dsimp only
  split
  ·exact h.p
  ·exact .inr rfl
 ·show (s.out++(ngOpt s.n s.x s.k s.d).2).length≤_
  rw [List.length_append];omega
theorem zui (s:NW) (h:NwOk s) (ho:s.out.length≤10000000000000) (hb:s.n.buf.length≤100000000000000) (hp:s.n.phase=1):ACall Tryz.prog 97 6 [.tp 3 0] (nwH s) (fun r h'=>r= .d (.bool ((optRd s.n.buf).2.2 !=22))∧h'=nwH (zd8 s)):=by
 obtain ⟨O,hO⟩:∃O,O=optRd s.n.buf:=⟨_,rfl⟩
 refine za6 (fun i=>decide (i<6)) ?_
 have hpi:=nw_pi h
 by_cases h22:O.2.2=22
 ·have e:zd8 s=s:=if_pos (hO ▸ h22)
  have hb1:(O.2.2==22)=true:=bI
  have hb2:(O.2.2 !=22)=false:=bI
  rw [e,← hO,hb2]
  refine bod Tryz.func97 Tryz.ntmps97 (fun base=>?_)
  refine' walkW (zq hO.symm hb1 hpi) (za zdR <| zb _)
  rfl
 have hb1:(O.2.2==22)=false:=bI
 have hb2:(O.2.2 !=22)=true:=bI
 by_cases h0:O.2.2=0
 ·have hb0:(O.2.2==0)=true:=by simpa using h0
  have e:zd8 s=nwOpt (nwGot s):=by rw [zd8,← hO,if_neg h22,if_neg (fun e=>e h0)]
  obtain ⟨u,hu⟩:∃u,u=nwGot s:=⟨_,rfl⟩
  have huk:NwOk u:=by rw [hu];exact h.got (hO ▸ h0)
  have huo:u.out.length≤10000000000000:=by rw [hu];exact ho
  have hup:u.n.phase=1:=by rw [hu];exact hp
  have hk:u.k=O.1.1:=by rw [hu,hO];rfl
  rw [e,← hO,← hu,hb2]
  obtain ⟨vs,hvs⟩:∃vs,vs=optFs.map fun f=>AV.fn (.func f) [.tp 3 0] []:=⟨_,rfl⟩
  have hoA:optA 3= .amap optKs vs:=by rw [hvs];rfl
  have hpu:=nw_pi (zp9 huk huo)
  rcases zx6 u huk huo hup with ⟨j,f,h1,h2,h3⟩|⟨h1,h2⟩
  ·rw [hk] at h1
   rw [← hvs] at h2
   refine bod Tryz.func97 Tryz.ntmps97 (fun base=>?_)
   refine' zpA (ownsL [2000174]) (zq hO.symm hb1 hb0) (za zdR <| zb _)
   refine ⟨nwH u,6,_,rfl,⟨?_,?_,trivial⟩,nw_cl huk,⟨rfl,trivial⟩,zjX u,?_⟩
   ·rw [hu];rfl
   ·rw [hu,nwGot,← hO];rfl
   rw [hoA]
   simp only [go_sem,aeq,aeq.aeqF,simprocAttr,h1,h2]
   refine ⟨rfl,ad,?_⟩
   refine' zc fx
   refine (zb4 h3 rfl ⟨?_,?_,trivial⟩ (nw_cl huk) ⟨rfl,trivial⟩ rfl).mono ?_
   ·rw [hu];rfl
   ·rw [hu,nwGot,← hO];rfl
   rintro r h' ⟨rfl,rfl⟩
   refine' zc hpu
   rfl
  ·rw [hk] at h1
   rw [h2] at hpu ⊢
   refine bod Tryz.func97 Tryz.ntmps97 (fun base=>?_)
   refine' zpA (ownsL [2000174]) (zq hO.symm hb1 hb0) (za zdR <| zb _)
   refine ⟨nwH u,6,_,rfl,⟨?_,?_,trivial⟩,nw_cl huk,⟨rfl,trivial⟩,zjX u,?_⟩
   ·rw [hu];rfl
   ·rw [hu,nwGot,← hO];rfl
   rw [hoA]
   simp only [go_sem,aeq,aeq.aeqF,simprocAttr,h1]
   refine ⟨rfl,ad,?_⟩
   refine' zc fx
   refine (zb4 (zx5 u huk) rfl ⟨rfl,?_,?_,trivial⟩ ?_ ⟨rfl,trivial⟩ rfl).mono ?_
   ·rw [hu];rfl
   ·rw [hu,nwGot,← hO];rfl
   ·rcases huk.p with e|e<;>simp [inH,idsH,AObj.ids,AV.idsL,AV.ids,nwC,e,hget]
   rintro r h' ⟨rfl,rfl⟩
   refine' zc hpu
   rfl
 ·have e:zd8 s= { s with n:= { s.n with phase:=3,buf:= [] } } :=by rw [zd8,← hO,if_neg h22,if_pos h0]
  have hb0:(O.2.2==0)=false:=ck
  rw [e,← hO,hb2]
  refine bod Tryz.func97 Tryz.ntmps97 (fun base=>?_)
  refine' walkW (zq hO.symm hb1 hb0) (za zdR <| zb _)
  refine (zb4 (zp4 s) rfl ⟨rfl,rfl,trivial⟩ (nw_cl h) ⟨rfl,trivial⟩ rfl).mono ?_
  rintro r h' ⟨rfl,rfl⟩
  refine' zc hpi
  rfl
open Go Go.Proofs
def ngM (n:Ng):Nat:=n.buf.length+(if n.phase=0 then 2 else if n.phase=1 then 1 else 0)
theorem zhT (n:Ng):(ngClr n).phase=n.phase:=by unfold ngClr;split<;>rfl
theorem zgw (n:Ng):ngClr (ngClr n)=ngClr n:=by
 unfold ngClr
 split<;>rfl
theorem zro (x:Xp) (k:Nat) (n:Ng) (out:Txt):zI x k (ngClr n) out=zI x k n out:=by
 cases k with
 |zero=>rw [zI,zI,zgw]
 |succ k=>
  by_cases h3:n.phase=3
  ·rw [zI,zI,if_neg (by rw [zhT];omega),if_neg U,zgw]
  ·rw [show ngClr n=n from if_neg h3]
def nwDo (s:NW):NW:=if s.n.phase=0 then nwFlg s else zd8 s
structure DoOk (s:NW):Prop where
 yes:(ngStep s.n s.x).2.2=true→(nwDo s).n=ngClr (ngStep s.n s.x).1∧(nwDo s).out=s.out++(ngStep s.n s.x).2.1∧ngM (nwDo s).n<ngM s.n
 no:(ngStep s.n s.x).2.2=false→nwDo s=s
 x:(nwDo s).x=s.x
 ok:NwOk (nwDo s)
 len:(nwDo s).out.length≤s.out.length+10000000
 ph:0≤(nwDo s).n.phase
theorem zqa {n:Ng} {x:Xp} {k:Int} {d:Txt} :(ngOpt n x k d).1.phase=n.phase∨(ngOpt n x k d).1.phase=2∨(ngOpt n x k d).1.phase=3:=by
 unfold ngOpt za5
 repeat' split
 all_goals first|exact .inl rfl|exact .inr (.inl rfl)|exact .inr (.inr rfl)
theorem zmQ {n:Ng} {x:Xp} {k:Int} {d:Txt} :(ngOpt n x k d).1.buf=n.buf:=by
 unfold ngOpt za5
 repeat' split
 all_goals rfl
theorem zuj (n:Ng):(ngClr n).buf.length≤n.buf.length:=by
 unfold ngClr
 split
 ·exact Nat.zero_le _
 ·exact Nat.le_refl _
theorem zuk (n:Ng):ngM (ngClr n)≤ngM n:=by
 unfold ngM
 rw [zhT]
 have:=zuj n
 omega
theorem zyX (s:NW) (h:NwOk s) (ho:s.out.length≤10000000000000) (hp:s.n.phase=0∨s.n.phase=1):DoOk s:=by
 rcases hp with hp|hp
 ·have hst:ngStep s.n s.x=if s.n.buf.length<4 then (s.n,[],false) else (ngFlg s.n,[],true):=by
   rw [ngStep,if_pos hp];rfl
  by_cases h4:s.n.buf.length<4
  ·rw [if_pos h4] at hst
   have e:nwFlg s=s:=if_pos h4
   constructor<;>(try rw [nwDo])<;>rw [if_pos hp,e]<;>(try rw [hst])
   ·intro e;cases e
   ·intro _;rfl
   ·exact h
   ·omega
   ·omega
  ·rw [if_neg h4] at hst
   have e:nwFlg s= { s with n:=ngClr (ngFlg s.n) } :=if_neg h4
   have hm:ngM (ngFlg s.n)<ngM s.n:=by
    unfold ngM ngFlg
    simp only [List.length_drop,hp]
    split<;>simp<;>omega
   constructor<;>(try rw [nwDo])<;>rw [if_pos hp,e]<;>(try rw [hst])
   ·intro _;exact ⟨rfl,aa,Nat.lt_of_le_of_lt (zuk _) hm⟩
   ·intro e;cases e
   ·exact h.n _
   ·exact Nat.le_add_right _ _
   ·rw [zhT];unfold ngFlg;dsimp only;split<;>omega
 ·have hst:=ngStep.eq_1 s.n s.x
  rw [if_neg U] at hst
  by_cases h22:(optRd s.n.buf).2.2=22
  ·rw [if_pos h22] at hst
   have e:zd8 s=s:=if_pos h22
   constructor<;>(try rw [nwDo])<;>rw [if_neg U,e]<;>(try rw [hst])
   ·intro e;cases e
   ·intro _;rfl
   ·exact h
   ·omega
   ·omega
  ·rw [if_neg h22] at hst
   by_cases h0:(optRd s.n.buf).2.2=0
   ·rw [if_neg (fun e=>e h0)] at hst
    have e:zd8 s=nwOpt (nwGot s):=by rw [zd8,if_neg h22,if_neg (fun e=>e h0)]
    have hg:=h.got h0
    have hol:(nwGot s).out.length≤10000000000000:=ho
    have hlen:=ziI hg
    obtain ⟨_,h16,_,eg⟩:=zd7 h0
    constructor<;>(try rw [nwDo])<;>rw [if_neg U,e]<;>(try rw [hst])
    ·intro _
     refine ⟨rfl,rfl,?_⟩
     refine Nat.lt_of_le_of_lt (zuk _) ?_
     unfold ngM
     rw [zmQ]
     have hbl:(nwGot s).n.buf.length+16≤s.n.buf.length:=by
      show (optRd s.n.buf).2.1.length+16≤_
      rw [eg];simp only [List.length_drop];omega
     have:=zqa (n:=(nwGot s).n) (x:=(nwGot s).x) (k:=(nwGot s).k) (d:=(nwGot s).d)
     split<;>split<;>omega
    ·intro e;cases e
    ·rfl
    ·exact zp9 hg hol
    ·show ((nwGot s).out++_).length≤_
     rw [List.length_append]
     show s.out.length+_≤_
     omega
    ·show 0≤(ngClr (ngOpt (nwGot s).n (nwGot s).x (nwGot s).k (nwGot s).d).1).phase
     rw [zhT]
     have:=zqa (n:=(nwGot s).n) (x:=(nwGot s).x) (k:=(nwGot s).k) (d:=(nwGot s).d)
     have e1:(nwGot s).n.phase=1:=hp
     omega
   ·rw [if_pos h0] at hst
    have e:zd8 s= { s with n:= { s.n with phase:=3,buf:= [] } } :=by rw [zd8,if_neg h22,if_pos h0]
    constructor<;>(try rw [nwDo])<;>rw [if_neg U,e]<;>(try rw [hst])
    ·intro _
     refine ⟨rfl,aa,?_⟩
     unfold ngM
     simp [hp]
    ·intro e;cases e
    ·exact h.n _
    ·exact Nat.le_add_right _ _
    ·show (0:Int)≤3;decide
theorem zul {x:Xp} {k:Nat} {s:NW} (hx:s.x=x) (hp:s.n.phase=0∨s.n.phase=1) (h:DoOk s):zI x (k+1) s.n s.out=if (ngStep s.n s.x).2.2 then zI x k (nwDo s).n (nwDo s).out else (s.n,s.out):=by
 rw [zI,if_pos hp,hx]
 split
 ·rename_i e
  rw [← hx] at e
  obtain ⟨e1,e2,_⟩:=h.yes e
  rw [e1,e2,zro,hx]
 ·rfl
theorem zoG (n:Ng):n.buf.length≤ngM n:=Nat.le_add_right _ _
theorem zw8 {s:NW} (h:NwOk s):inH (nwH s++ [(4,.var [.fn (.func 96) [.tp 3 0] [],.fn (.func 97) [.tp 3 0] []]),(2,.var [.d (.int .i64 0),.d (.str []),.d (.bool false),.d (.bool false),.d (.sl 1 [])])]) (s.p.ids++ [5]++ [3,3]):=by
 rcases h.p with e|e<;>simp [inH,AV.ids,e,hget]
theorem zlj (s:NW) (h:NwOk s):ACall Tryz.prog 98 6 [.tp 3 9] (nwH s) (fun r h'=>r= .d (.str s.out)∧h'= [(5,.buf 5 gone),(3,.tvar 182 (nwC s))]):=
 (ziv (i:=3) (j:=5) (o:=9) (T:=182) (cs:=nwC s) (xs:=s.out) rfl rfl rfl rfl (by have:=h.out;omega)).below
theorem zwv (n:Ng) (x:Xp) (s:Txt) (h0:0≤n.phase) (hl:n.buf.length+s.length≤900000) (z0:0≤x.size) (z1:x.size<18446744073709551616) (hn:x.names.length≤1000) (hnn:∀t∈x.names,t.length≤1000):ACall Tryz.prog 42 0 [ngA n,xpA x,.d (.str s)] [] (fun r _=>r= .tup [ngA (zM n x s).1,.d (.str (zM n x s).2)]):=by
 obtain ⟨V,hV⟩:∃V,V=zM n x s:=⟨_,rfl⟩
 rw [← hV]
 refine fbod Tryz.func42 Tryz.ntmps42 (fun base=>?_)
 by_cases h3:n.phase=3
 ·have h3b:(n.phase==3)=true:=by simpa using h3
  rw [zM,if_pos h3] at hV
  refine' zc h3b
  rw [hV]
 have h3b:(n.phase==3)=false:=bK
 rw [zM,if_neg h3] at hV
 refine' zad (zN 6) h3b
 refine ziw 3 10 rfl rfl ?_
 simp only [go_sem,aeq,aeq.aeqF,simprocAttr]
 obtain ⟨s0,hs0⟩:∃s0:NW,s0=⟨{ n with buf:=n.buf++s },x,0,[],.d .nilp,[]⟩:=⟨_,rfl⟩
 have hok0:NwOk s0:=by rw [hs0];exact ⟨.inl rfl,Nat.zero_le _,Int.le_refl 0,(by show (0:Int)≤4294967295;decide),Nat.zero_le _,z0,z1,hn,hnn⟩
 obtain ⟨N,hN⟩:∃N,N=n.buf.length+s.length+2:=⟨_,rfl⟩
 have hM0:ngM s0.n≤N:=by rw [hs0,hN];unfold ngM;simp only [List.length_append];split<;>(try split)<;>omega
 have hV0:V=zI x N s0.n s0.out:=by rw [hV,hs0,hN]
 have hx0:s0.x=x:=by rw [hs0]
 have hp0:0≤s0.n.phase:=by rw [hs0];exact h0
 have hc0:ngClr s0.n=s0.n:=if_neg (by rw [hs0];exact h3)
 have ho0:s0.out.length+10000000*ngM s0.n≤9100000000000:=by rw [hs0];rw [hs0] at hM0;show 0+_≤_;omega
 refine zk (fun q: { q:NW×Nat // NwOk q.1∧q.1.x=x∧ngM q.1.n≤q.2∧V=zI x q.2 q.1.n q.1.out∧0≤q.1.n.phase∧ngClr q.1.n=q.1.n∧q.1.out.length+10000000*ngM q.1.n≤9100000000000 } =>⟨[(6,true,.vp 2 0),(8,true,.tp 3 0),(9,true,.vp 4 0)],nwH q.1.1++ [(4,.var [.fn (.func 96) [.tp 3 0] [],.fn (.func 97) [.tp 3 0] []]),(2,.var [.d (.int .i64 0),.d (.str []),.d (.bool false),.d (.bool false),.d (.sl 1 [])])],some []⟩) (fun q=>ngM q.1.1.n) ⟨(s0,N),hok0,hx0,hM0,hV0,hp0,hc0,ho0⟩ (by subst hs0;simp only [AS.le,leT,leH,zf,AsgK,AV.le,AV.leL,AObj.le,inH,idsT,idsH,AV.ids,AV.idsL,AV.idsR,AObj.ids,lk,hget,go_sem,aeq,aeq.aeqF,simprocAttr]<;>and_intros<;>rfl) (fun q=>?_)
 obtain ⟨⟨w,k⟩,hok,hx,hM,hVk,hph,hcl,ho⟩:=q
 simp only at hok hx hM hVk hph hcl ho ⊢
 have hol:w.out.length≤10000000000000:=U
 rcases Int.lt_or_le w.n.phase 2 with hlt|hge
 ·have hcmp:decide (w.n.phase<2)=true:=decide_eq_true hlt
  have hcs:w.n.phase=0∨w.n.phase=1:=U
  have D:=zyX w hok hol hcs
  obtain ⟨k,rfl⟩:∃k',k=k'+1:=⟨k - 1,by
   have:1≤ngM w.n:=by unfold ngM;rcases hcs with e|e<;>simp only [e]<;>simp<;>omega
   omega⟩
  have hNo:=zul (k:=k) hx hcs D
  rcases hcs with hp|hp
  ·have e:nwDo w=nwFlg w:=if_pos hp
   have hB:decide (4≤w.n.buf.length)=(ngStep w.n w.x).2.2:=by
    rw [ngStep,if_pos hp]
    split
    ·exact decide_eq_false U
    ·exact decide_eq_true U
   refine' zc (zj hcmp hp)
   refine (zb4 (zwu w (by have:=zoG w.n;omega)) rfl ⟨rfl,by simp [hget,nwC,hp],trivial⟩ (nw_cl hok) ⟨rfl,trivial⟩ rfl).mono ?_
   rintro r h' ⟨rfl,rfl⟩
   rw [hB,← e]
   cases hb:(ngStep w.n w.x).2.2 with
   |true=>
    obtain ⟨e1,e2,e3⟩:=D.yes hb
    have hok':=D.ok
    rw [hb,if_pos rfl] at hNo
    have hxd:=D.x
    have hlen:=D.len
    simp only [go_sem,aeq,aeq.aeqF,simprocAttr]
    refine' zc fx
    exact ⟨⟨(nwDo w,k),D.ok,by rw [hxd,hx],by show ngM (nwDo w).n≤k;omega,by rw [hVk,hNo],D.ph,by rw [e1,zgw],ej⟩,dH,e3⟩
   |false=>
    have hVf:V=(w.n,w.out):=by rw [hVk,hNo,hb];rfl
    rw [D.no hb]
    simp only [go_sem,aeq,aeq.aeqF,simprocAttr]
    refine' zfQ (ownsL [4000098]) fx
    refine ⟨5,.buf 5 w.out,.buf 5 gone,[(3,.tvar 182 (nwC w))],6,.d (.str w.out),rfl,⟨rfl,rfl,trivial⟩,nw_cl hok,⟨rfl,trivial⟩,zlj w hok,?_⟩
    simp only [go_sem,aeq,aeq.aeqF,simprocAttr]
    refine ⟨ad,?_⟩
    refine' zc fx
    rw [hVf]
  ·have e:nwDo w=zd8 w:=if_neg U
   have hB:((optRd w.n.buf).2.2 !=22)=(ngStep w.n w.x).2.2:=by
    rw [ngStep,if_neg U]
    split
    ·rename_i h22;rw [h22];rfl
    ·rename_i h22
     split<;>simpa using h22
   refine' zc (zj hcmp hp)
   refine (zb4 (zui w hok hol (by have:=zoG w.n;omega) hp) rfl ⟨rfl,by simp [hget,nwC,hp],trivial⟩ (nw_cl hok) ⟨rfl,trivial⟩ rfl).mono ?_
   rintro r h' ⟨rfl,rfl⟩
   rw [hB,← e]
   cases hb:(ngStep w.n w.x).2.2 with
   |true=>
    obtain ⟨e1,e2,e3⟩:=D.yes hb
    have hok':=D.ok
    rw [hb,if_pos rfl] at hNo
    have hxd:=D.x
    have hlen:=D.len
    simp only [go_sem,aeq,aeq.aeqF,simprocAttr]
    refine' zc fx
    exact ⟨⟨(nwDo w,k),D.ok,by rw [hxd,hx],by show ngM (nwDo w).n≤k;omega,by rw [hVk,hNo],D.ph,by rw [e1,zgw],ej⟩,dH,e3⟩
   |false=>
    have hVf:V=(w.n,w.out):=by rw [hVk,hNo,hb];rfl
    rw [D.no hb]
    simp only [go_sem,aeq,aeq.aeqF,simprocAttr]
    refine' zfQ (ownsL [4000098]) fx
    refine ⟨5,.buf 5 w.out,.buf 5 gone,[(3,.tvar 182 (nwC w))],6,.d (.str w.out),rfl,⟨rfl,rfl,trivial⟩,nw_cl hok,⟨rfl,trivial⟩,zlj w hok,?_⟩
    simp only [go_sem,aeq,aeq.aeqF,simprocAttr]
    refine ⟨ad,?_⟩
    refine' zc fx
    rw [hVf]
 ·have hcmp:decide (w.n.phase<2)=false:=decide_eq_false U
  have hgd: [AV.fn (.func 96) [.tp 3 0] [],AV.fn (.func 97) [.tp 3 0] []].getD (w.n.phase.toNat*1) .any= .any:=by
   rw [List.getD_eq_getElem?_getD,List.getElem?_eq_none (by simp only [List.length_cons,List.length_nil];omega)];rfl
  refine' zfQ (ownsL [4000098]) (zj hcmp hgd)
  have hVf:V=(w.n,w.out):=by
   rw [hVk]
   cases k with
   |zero=>rw [zI,hcl]
   |succ k=>rw [zI,if_neg U,hcl]
  refine ⟨5,.buf 5 w.out,.buf 5 gone,[(3,.tvar 182 (nwC w))],6,.d (.str w.out),rfl,⟨rfl,rfl,trivial⟩,nw_cl hok,⟨rfl,trivial⟩,zlj w hok,?_⟩
  simp only [go_sem,aeq,aeq.aeqF,simprocAttr]
  refine ⟨ad,?_⟩
  refine' zc fx
  rw [hVf]
open Go Go.Proofs
theorem zrT {n:Ng} {x:Xp} (hc:(ctxs x.names).length≤1001):(ngStep n x).2.1.length≤10000000:=by
 unfold ngStep
 repeat' split
 all_goals first|exact Nat.zero_le _|exact zmP hc
theorem zj5 {x:Xp} (hc:(ctxs x.names).length≤1001):∀ (k:Nat) (n:Ng) (out:Txt),(zI x k n out).2.length≤out.length+10000000*k
 |0,n,out=>Nat.le_refl _
 | k+1,n,out=>by
  rw [zI]
  split
  ·split
   ·have h1:=zj5 hc k (ngStep n x).1 (out++(ngStep n x).2.1)
    have h2:=zrT (n:=n) hc
    rw [List.length_append] at h1
    omega
   ·exact Nat.le_add_right _ _
  ·exact Nat.le_add_right _ _
theorem zhc {n:Ng} {x:Xp} (hc:(ctxs x.names).length≤1001) (s:Txt):(zM n x s).2.length≤10000000*(n.buf.length+s.length+2):=by
 unfold zM
 split
 ·exact Nat.zero_le _
 ·have:=zj5 hc (n.buf.length+s.length+2) { n with buf:=n.buf++s } []
  rw [List.length_nil,Nat.zero_add] at this
  exact this
theorem znh {n0:Txt} :∀ {l:List Dmap} {i:Nat},mfit n0 i l=true→∀m∈l,m.name.length≤8
 | [],_,_,m,hm=>by cases hm
 |a::r,i,h,m,hm=>by
  simp only [mfit,Bool.and_eq_true,zht,decide_eq_true_eq] at h
  rcases List.mem_cons.1 hm with rfl|hm
  ·exact h.1.1.1.2.2
  ·exact znh h.2 m hm
theorem XOk.xp {x:Img} (h:XOk x):XpF (xpOf x):=by
 have h1:=h.fit
 unfold ifit at h1
 simp only [Bool.and_eq_true] at h1
 have h2:=znh h1.2
 refine ⟨⟨by have:=h.g0;simp only [xpOf];omega,by have:=h.g1;simp only [xpOf];omega⟩,by have:=h.maps;simp only [xpOf,List.length_map];omega,fun t ht=>?_⟩
 obtain ⟨m,hm,rfl⟩:=List.mem_map.1 ht
 have:=h2 m hm
 omega
theorem XOk.ex {x:Img} (h:XOk x):ExOk x:=⟨by have:=h.g0;omega,by have:=h.g1;omega,by have:=h.maps;omega,fun m hm=>h.img.ok.bits m hm⟩
theorem zj6 {L:Nat} {x:Img} (hx:XOk x) {c:Cn} (h:CnOk L x c) (s:Txt):CnOk (L+s.length) x (zca { c with n:=(zM c.n (xpOf x) s).1,out:=c.out++(zM c.n (xpOf x) s).2 }):=by
 have hn:(xpOf x).names.length≤2:=ez
 have hm:=ze7 hn h.ms s
 have hb:=h.buf
 have h1:CnOk (L+s.length) x { c with n:=(zM c.n (xpOf x) s).1,out:=c.out++(zM c.n (xpOf x) s).2 } :=by
  refine ⟨ze6 h.phase s,au,hm.1,h.tasks,fun t ht=>?_,fun hne=>?_⟩
  ·have h2:=h.data (fun e=>by simp only [e] at ht;cases ht)
   have h3:=h.tsk t ht
   rw [zev h2]
   exact h3
  ·have h2:=h.data hne
   simp only
   rw [zev h2]
   exact h2
 unfold zca
 split
 ·exact zgC h1
 ·exact h1
theorem zrU {M:Nat} {x:Img} {c:Cn} (hx:XOk x) (h:OutOk M c) (s:Txt) (hm:MsOk c.n.metas):OutOk (M+10010000*(c.n.buf.length+s.length+2)) (zdQ x c s):=by
 have h1:=zhc (n:=c.n) (xctxs hx.xp).1 s
 have h2:=(ze7 (n:=c.n) (x:=xpOf x) (by have:=hx.maps;simp only [xpOf,List.length_map];omega) hm s).2
 unfold OutOk at h
 refine zhb _ ?_
 unfold zca
 split
 ·simp only [OutOk,zcp,List.length_append,List.length_nil];omega
 ·simp only [OutOk,List.length_append];omega
def SvOut (M:Nat) (v:Srv):Prop:=∀c∈v.conns,OutOk M c
theorem OutOk.more {M M2:Nat} {c:Cn} (h:OutOk M c) (hl:M≤M2):OutOk M2 c:=Nat.le_trans h hl
theorem SvOut.set {M M2:Nat} {v:Srv} (h:SvOut M v) (hl:M≤M2) {x:Img} {i:Nat} {c:Cn} (hc:OutOk M2 c):SvOut M2 ⟨x,v.conns.set i c⟩:=fun o ho=>by
 rcases List.mem_or_eq_of_mem_set ho with ho|ho
 ·exact (h o ho).more hl
 ·rw [ho];exact hc
structure SvB (v:Srv):Prop where
 ok:SvOk 400000 v
 out:SvOut 4000000000000000000 v
open Go Go.Proofs
theorem zrX (v:Srv) (c:Int) (h:SvB v):AC 18 [srvA v,.d (.int .i64 c)] (.tup [srvA (zbr v c).1,.d (.str (zbr v c).2)]):=by
 obtain ⟨V,hV⟩:∃V,V=zbr v c:=⟨_,rfl⟩
 rw [← hV]
 unfold zbr at hV
 have hcl:=h.ok.len
 by_cases hb:c<0∨(v.conns.length:Int)≤c
 ·have hn:(if c<0 then none else v.conns[c.toNat]?)=none:=by
   split
   ·rfl
   ·exact List.getElem?_eq_none U
  rw [hn] at hV
  refine fbod Tryz.func18 Tryz.ntmps18 (fun base=>?_)
  refine' zc fx
  refine (zaJ (ziL v c hb)).mono ?_
  rintro r h' ⟨rfl,rfl⟩
  simp only [go_sem,aeq,aeq.aeqF,simprocAttr]
  refine' zc fx
  rw [hV]
 ·obtain ⟨k,rfl⟩:∃k:Nat,c=k:=⟨c.toNat,U⟩
  obtain ⟨o,ho⟩:∃o,v.conns[k]?=some o:=⟨_,List.getElem?_eq_getElem U⟩
  have hn:(if (k:Int)<0 then none else v.conns[(k:Int).toNat]?)=some o:=bA
  rw [hn] at hV
  simp only [Int.toNat_natCast] at hV
  have hmo:=List.mem_of_getElem? ho
  have hco:=h.ok.conn o hmo
  have hbg:=zg9 v k o ho U bY
  obtain ⟨pre,hpre⟩:∃pre,pre=((v.conns.take k).map cnD).flatten.map AV.d:=⟨_,rfl⟩
  rw [← hpre] at hbg
  have hip:AV.idsL pre= []:=cH
  refine fbod Tryz.func18 Tryz.ntmps18 (fun base=>?_)
  refine' zc fx
  refine (hbg.own rfl rfl ae dq).mono ?_
  rintro r h' ⟨h1,⟨m,rfl,rfl⟩,rfl⟩
  obtain ⟨post,hpost⟩:∃post,post=((v.conns.drop (k+1)).map cnD).flatten.map AV.d++List.replicate m .any:=⟨_,rfl⟩
  rw [← hpost]
  have hiq:AV.idsL post= []:=cG
  simp only [go_sem,aeq,aeq.aeqF,simprocAttr]
  refine' zad (zN 6) fx
  obtain ⟨σ,hσ⟩:∃σ:SW,σ=⟨v.x,v.conns.length,pre, { o with out:= [] },post,.osl 34 12 o.tasks.length 0 o.tasks.length,o.tasks.map tskD⟩:=⟨_,rfl⟩
  have hso:SwOk σ:=by rw [hσ];exact ⟨hip,hiq,.inl ⟨rfl,rfl⟩,by have:=hco.tasks;simp only;omega⟩
  refine aw_le ⟨[(4,true,.vp 1 0),(6,true,.vp 21 0),(8,true,.d (.str o.out))],swH σ++ [(1,.var (img0++ [.nils 8]))],some []⟩ (by rw [hσ];unfold img0;simp only [AS.le,leT,leH,zf,AsgK,AV.le,AV.leL,AObj.le,inH,idsT,idsH,AV.ids,AV.idsL,AV.idsR,AObj.ids,lk,hget,go_sem,aeq,aeq.aeqF,simprocAttr,rowC,swC]<;>and_intros<;>first|rfl|exact AV.leL_refl _|simp [inH,AV.idsL,AV.ids,hget,hip,hiq,zg]) ?_
  refine zlB (l:=v.conns) (k:=k) (m:=m) hso U (by rw [hσ]) (by rw [hσ,hpre];rfl) (by rw [hσ,hpost];rfl) ae ae ae ?_
  unfold imgC img0
  refine' zc fx
  rw [hV,hσ]
@[go_sem] noncomputable def zhD:Ent Tryz.prog 18:= .m2 zfA (intT .i64) zrX
open Go Go.Proofs
theorem SvOut.more {M N:Nat} {v:Srv} (h:SvOut M v) (hl:M≤N):SvOut N v:=fun c hc=>(h c hc).more hl
theorem zr4 {L M:Nat} {x:Img} {c:Cn} (h:OutOk M c) (i:Nat) {t:Tsk} (hs:t.spans.length≤3):OutOk (M+20000) (zhx x c i t):=by
 have h1:=zha t c.n.chunks
 unfold zhx
 split
 ·refine zhb _ ?_
  unfold OutOk at h ⊢
  simp only [List.length_append]
  omega
 ·unfold OutOk at h ⊢
  simp only
  omega
theorem zlF {L M:Nat} {v:Srv} (h:SvOk L v) (ho:SvOut M v) (d:Deed) (hL:L+d.text.length≤800000):SvOut (M+10000000000000) (svDo v d).1:=by
 unfold svDo
 split
 ·unfold zbl
  split
  ·exact ho.more U
  ·rename_i o hg
   obtain ⟨h0,hm⟩:=zdj hg
   split
   ·exact ho.more U
   ·have hc:=h.conn o hm.2
    refine SvOut.set ho U ((zrU h.x (ho o hm.2) d.text hc.ms).more ?_)
    have:=hc.buf
    omega
 split
 ·unfold zd5
  split
  ·exact ho.more U
  ·rename_i o hg
   obtain ⟨h0,hm⟩:=zdj hg
   split
   ·exact ho.more U
   ·rename_i t ht
    have hc:=h.conn o hm.2
    have htm:t∈o.tasks:=by
     split at ht
     ·cases ht
     ·exact List.mem_of_getElem? ht
    obtain ⟨t1,t2,t3⟩:=hc.tsk t htm
    have:=(t2.step v.x o.n.metas hc.ms.1).spans
    refine SvOut.set ho U ((zr4 (L:=L) (ho o hm.2) _ this).more U)
 ·unfold zbr
  split
  ·exact ho.more U
  ·rename_i o hg
   obtain ⟨h0,hm⟩:=zdj hg
   refine SvOut.set ho U ?_
   have:=ho o hm.2
   unfold OutOk at this ⊢
   simp only [List.length_nil]
   omega
open Go Go.Proofs
theorem zns {size:Int} :∀ (k:Nat) {c:Cn},c.gone=false→(zaV size k c).gone=false→zfH size k c=zaV size k c
 |0,c,_,_=>rfl
 | k +1,c,h,h1=>by
  by_cases hm:zcX c
  ·rw [zfZ hm] at h1 ⊢
   rw [zfH]
   by_cases hd:zqi size c
   ·rw [if_neg (fun e=>e.2 hd)]
    unfold cnNx at h1 ⊢
    by_cases h22:(reqRd c.n.buf).2.2=22
    ·rw [if_pos h22,if_neg U]
    ·rw [if_neg h22,if_pos hd] at h1
     split at h1
     ·rw [zbz rfl] at h1;cases h1
     ·cases h1
   ·rw [if_pos ⟨hm,hd⟩]
    have h0:(reqRd c.n.buf).2.2=0:=Classical.not_not.1 (fun e=>hd (.inl e))
    have hn:cnNx size c=cnOne size c:=by rw [cnNx,if_neg U,if_neg hd]
    rw [if_pos h0,hn] at h1 ⊢
    exact zns k (by rw [zea];exact h) h1
  ·rw [zbb hm,zfH,if_neg (fun e=>hm e.1)]
def TvOk (o:Cn) (tv:AV) (ts:List (List D)):Prop:=tv= .osl 23 12 o.tasks.length 0 o.tasks.length∧ts=o.tasks.map tskD∨tv= .nils 12∧o.tasks= []
theorem zy6 {size:Int} {c:Cn} (hg:c.gone=false):TvOk (zal size c) (tkV (zal size c)) ((zfH size (c.n.buf.length+1) c).tasks.map tskD):=by
 cases h:(zal size c).gone with
 |true=>exact .inr ⟨by rw [tkV,if_pos h],zf1 _ hg h⟩
 |false=>exact .inl ⟨by rw [tkV,if_neg (by rw [h];decide)],by rw [zns _ hg h];rfl⟩
theorem ziS (x:Img) (c:Cn) {L M:Nat} (hx:XOk x) (hc:CnOk L x c) (hL:L≤9223372036854775806) (hco:OutOk M c) (hM:M≤9223372036854770000):∃tv ts,TvOk (zal (128*x.geom.guest) c) tv ts∧ACall Tryz.prog 61 40 [imgA x,.agg (rowC c (.osl 23 12 c.tasks.length 0 c.tasks.length))] [(23,.arr 12 (c.tasks.map tskD))] (fun r h'=>r= .agg (rowC (zal (128*x.geom.guest) c) tv)∧h'= [(23,.arr 12 ts)]):=by
 cases hg:c.gone with
 |false=>exact ⟨_,_,zy6 hg,zr8 x c hx hc hL hco hM hg⟩
 |true=>
  rw [zal,zbz hg]
  exact ⟨_,_,.inl ⟨rfl,rfl⟩,zr7 x c _ _ hg⟩
theorem zgH {cx:Cx} {c:Code} {Q:Exit→AS→Prop} {X:Img} {o:Cn} {tv:AV} {ts:List (List D)} {l:List Cn} {k m a b d:Nat} {x:D} (ht:TvOk o tv ts) (hk:k<l.length)
  (hab:a≠b) (had:a≠d) (hbd:b≠d)
  (h:AW cx c Q ⟨[(a,true,.vp 0 0),(b,true,.vp 1 0),(d,true,.d x)],[(1,.var (img0++ [.nils 8])),(0,.var (imgC X++ [.d (.sl 8 ((l.set k o).map cnD))]))],some []⟩):
  AW cx c Q ⟨[(a,true,.vp 0 0),(b,true,.vp 1 0),(d,true,.d x)],[(23,.arr 12 ts),(22,.var (zO (l.take k)++(rowC o tv++(zO (l.drop (k+1))++List.replicate m .any)))),(1,.var (img0++ [.nils 8])),(0,.var (imgC X++ [.vsl 22 8 0 l.length]))],some []⟩:=by
 have hP:∀f,AV.trL f (zO (l.take k))=zO (l.take k):=fun f=>znk _
 have hS:∀f,AV.trL f (zO (l.drop (k+1))++List.replicate m .any)=zO (l.drop (k+1))++List.replicate m .any:=fun f=>by rw [zly,zO,znk,zlz]
 have h2:AW cx c Q ⟨[(a,true,.vp 0 0),(b,true,.vp 1 0),(d,true,.d x)],[(22,.var (((l.set k o).map cnD).flatten.map .d++List.replicate m .any)),(1,.var (img0++ [.nils 8])),(0,.var (imgC X++ [.vsl 22 8 0 l.length]))],some []⟩:=by
  refine zps 22 8 _ rfl eu ?_
  unfold img0 imgC
  simp only [go_sem,aeq,aeq.aeqF,simprocAttr]
  rw [if_pos (by rw [List.length_set])]
  exact h
 have hc:((l.set k o).map cnD).flatten.map AV.d++List.replicate m .any=zO (l.take k)++(rowD o++(zO (l.drop (k+1))++List.replicate m .any)):=by
  show zO (l.set k o)++_=_
  rw [znl hk]
  simp only [List.append_assoc]
 rw [hc] at h2
 rcases ht with ⟨e1,e2⟩|⟨e1,e2⟩
 ·simp only [rowC,e1,e2]
  refine zbh 23 rfl ?_
  unfold img0 imgC
  simp only [go_sem,aeq,aeq.aeqF,simprocAttr,hP,hS,List.length_map,List.take_of_length_le]
  exact h2
 ·simp only [rowC,e1]
  refine aw_le _ ?_ h2
  unfold rowD
  simp only [AS.le,leT,leH,zf,AsgK,AV.le,AV.leL,AObj.le,inH,idsT,idsH,AV.ids,AV.idsL,AV.idsR,AObj.ids,lk,hget,go_sem,aeq,aeq.aeqF,simprocAttr,hab,had,hbd,rowC,e2,imgC,img0]
  and_intros<;>first|rfl|(refine zlA (AV.leL_refl _) ?_;simp [AV.leL,AV.le,AV.leL_refl])|exact AV.leL_refl _|simp [inH,AV.idsL,AV.ids,hget,zbc,zaZ,zg]
def SvQ (v:Srv):Prop:=v.conns.length≤4∧(v.conns≠ []→SvB v)
theorem zph (v:Srv) (c:Int) (hq:SvQ v):AC 26 [srvA v,.d (.int .i64 c)] (.tup [srvA (zbr v c).1,.d (.str (zbr v c).2)]):=by
 obtain ⟨V,hV⟩:∃V,V=zbr v c:=⟨_,rfl⟩
 rw [← hV]
 unfold zbr at hV
 have hcl:=hq.1
 by_cases hb:c<0∨(v.conns.length:Int)≤c
 ·have hn:(if c<0 then none else v.conns[c.toNat]?)=none:=by
   split
   ·rfl
   ·exact List.getElem?_eq_none U
  rw [hn] at hV
  have hbd:(decide (0≤c)&&decide (c<(v.conns.length:Int)))=false:=cV
  refine fbod Tryz.func26 Tryz.ntmps26 (fun base=>?_)
  refine' zc fx
  refine (zaJ (zcJ v c U)).mono ?_
  rintro r h' ⟨rfl,rfl⟩
  rw [hbd]
  simp only [go_sem,aeq,aeq.aeqF,simprocAttr]
  refine' zc fx
  rw [hV]
 ·obtain ⟨k,rfl⟩:∃k:Nat,c=k:=⟨c.toNat,U⟩
  obtain ⟨o,ho⟩:∃o,v.conns[k]?=some o:=⟨_,List.getElem?_eq_getElem U⟩
  have hn:(if (k:Int)<0 then none else v.conns[(k:Int).toNat]?)=some o:=bA
  rw [hn] at hV
  simp only [Int.toNat_natCast] at hV
  have hmo:=List.mem_of_getElem? ho
  have h:=hq.2 (List.ne_nil_of_mem hmo)
  have hco:=h.ok.conn o hmo
  have hbd:(decide (0≤(k:Int))&&decide ((k:Int)<(v.conns.length:Int)))=true:=cW
  have hpl:k*8=(zO (v.conns.take k)).length:=bQ
  refine fbod Tryz.func26 Tryz.ntmps26 (fun base=>?_)
  refine' zc fx
  refine (zaJ (zcJ v k U)).mono ?_
  rintro r h' ⟨rfl,rfl⟩
  rw [hbd]
  simp only [go_sem,aeq,aeq.aeqF,simprocAttr]
  refine' zc fx
  refine ((zo6 v k o ho U (fun o ho=>dj)).own rfl rfl ae dk).mono ?_
  rintro r h' ⟨h1,⟨m,rfl,rfl⟩,rfl⟩
  unfold imgC rowO
  simp only [go_sem,aeq,aeq.aeqF,simprocAttr]
  have hn2:(zO (v.conns.take k)).length+1+1=(zO (v.conns.take k)).length+2:=rfl
  refine' zad (zN 6) hpl
  obtain ⟨o1,ho1⟩:∃o1:Cn,o1= { o with out:= [] } :=⟨_,rfl⟩
  refine aw_le ⟨[(2,true,.vp 0 0),(4,true,.vp 1 0),(6,true,.d (.str o.out))],[(23,.arr 12 (o.tasks.map tskD)),(22,.var (zO (v.conns.take k)++(rowC o1 (.osl 23 12 o.tasks.length 0 o.tasks.length)++(zO (v.conns.drop (k+1))++List.replicate m .any)))),(1,.var (img0++ [.nils 8])),(0,.var (imgC v.x++ [.vsl 22 8 0 v.conns.length]))],some []⟩ (by rw [ho1];unfold img0 imgC rowC;simp only [AS.le,leT,leH,zf,AsgK,AV.le,AV.leL,AObj.le,inH,idsT,idsH,AV.ids,AV.idsL,AV.idsR,AObj.ids,lk,hget,go_sem,aeq,aeq.aeqF,simprocAttr,rowC]<;>and_intros<;>first|rfl|exact AV.leL_refl _|simp [inH,AV.idsL,AV.ids,hget,zbc,zaZ,zg]) ?_
  refine zgH (by rw [ho1];exact .inl ⟨rfl,rfl⟩) U ae ae ae ?_
  unfold imgC img0
  refine' zc fx
  rw [hV,ho1]
@[go_sem] noncomputable def zcu:Ent Tryz.prog 26:= .m2 zfA (intT .i64) zph
end Go.Aw
