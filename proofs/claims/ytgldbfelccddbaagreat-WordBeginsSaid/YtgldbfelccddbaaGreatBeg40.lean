/-
 Parts of the proof: lemmas.
-/
import Derived.Test.YtgldbfelccddbaaGreatBeg38
set_option maxRecDepth 100000
set_option maxHeartbeats 2000000
set_option linter.unusedSimpArgs false
set_option linter.unusedVariables false
namespace Go.Aw
open Go Go.Proofs Go.Proofs.YtgldbfelccddbaaGreat
def optFs:List FuncId:= [238,239,240,241,241,242,243,243]
def optKs:List D:= [.int .u32 1,.int .u32 2,.int .u32 3,.int .u32 6,.int .u32 7,.int .u32 8,.int .u32 9,.int .u32 10]
def optA (i:Nat):AV:= .amap optKs (optFs.map fun f=> .fn (.func f) [.tp i 0] [])
theorem zm7 {W:World} {E:Env} {h:AHeap} {i:Nat} {v:Value} (hr:Rep W E h (.tp i 0) v):∀l:List FuncId,Reps W E h (l.map fun f=> .fn (.func f) [.tp i 0] []) (l.map fun f=>Value.func (.func f) #[v] #[])
 | []=>by simp [Reps]
 |f::l=>by
  simp only [List.map_cons,Reps]
  refine ⟨_,_,rfl,?_,zm7 hr l⟩
  simp only [Rep,Reps]
  exact ⟨_,_,rfl,⟨_,_,rfl,hr,rfl⟩,rfl⟩
theorem zkX {fl i:Nat} {h:AHeap} {T:TypeId} {cs:List AV} (hi:hget h i=some (.tvar T cs)):ACallAt Tryz.prog fl 174 [.tp i 0] h (fun r h'=>r=optA i∧h'=h):=by
  refine ⟨zbA Tryz.func174 (by kernel_rfl) rfl,fun E w vs hs hr=>?_⟩
  simp only [Reps] at hr
  obtain ⟨v0,r0,e0,q0,rfl⟩:=hr
  have q0':=q0
  simp only [Rep] at q0
  obtain ⟨b,T',cs',hi',hb,rfl⟩:=q0
  have hvs:vs= #[.pointer (some ⟨b,0,none⟩)]:=by cases vs;simpa using e0
  subst hvs
  refine (zgP ⟨b,0,none⟩ w).mono ?_
  rintro e w3 ⟨rfl,mes,c,rfl,hks,hvs⟩
  have hfr:=zai fl h
  have ch:Chg E h w E h (w.alloc (.map mes c)) (fresh fl h):=
    { os:=rfl,tape:=rfl,output:=rfl,size:=by simp,envO:=fun _ _=>rfl,envC:=fun _ _=>rfl,M:=rfl,N:=rfl,hh:=fun _ _=>rfl,
      gi:=by simp [GoesOn,hfr]
      blk:=fun k hk _=>zaH w _ hk
      new:=fun k hs' _=>by rw [hfr] at hs';cases hs' }
  have hs2:=ch.satH hs (fun ob hob=>by rw [hfr] at hob;cases hob)
  refine ⟨_,_,_,_,rfl,⟨rfl,rfl⟩,hs2,?_,ch.evoC (.inr (zO _ _)),fun x y hxy=>ch.rep hxy⟩
  simp only [optA,Rep]
  refine ⟨w.heap.size,mes,c,rfl,?_,by rw [World.alloc_heap_new],by rw [hks];rfl,?_⟩
  · rintro (hx|hx|hx)
    · exact Nat.lt_irrefl _ (hs.own _ hx).1
    · exact Nat.lt_irrefl _ (hs.mlt _ hx)
    · exact Nat.lt_irrefl _ (hs.nlt _ hx)
  · rw [hvs]
    exact zm7 (ch.rep q0') optFs
theorem ACallAt.below {P:Program} {f:FuncId} {args:List AV} {fl:Nat} {h:AHeap} {K:AV→AHeap→Prop} (hc:ACallAt P fl f args h K):ACall P f fl args h K:=by
 refine ⟨hc.1,fun E w vs hs hr=>(hc.2 E w vs hs hr).mono ?_⟩
 rintro e w' ⟨v,E',r,h',h1,h2,h3,h4,h5,_⟩
 exact ⟨v,E',r,h',h1,h2,h3,h4,h5⟩
theorem zfO (s:NW):ACall Tryz.prog 174 6 [.tp 3 0] (nwH s) (fun r h'=>r=optA 3∧h'=nwH s):=(zkX (T:=182) (cs:=nwC s) rfl).below
theorem zpO (s:NW) (h:NwOk s):ACall Tryz.prog 175 7 [.vp 6 0] ((6,.var [.tp 3 0])::nwH s) (fun r h'=>r= .tup []∧h'=(6,.var [.tp 3 0])::nwH (nwSay s 2147483649 [])):=by
 refine bod Tryz.func175 Tryz.ntmps175 (fun base=>?_)
 refine' zc fx
 refine (zaj (zaI s 2147483649 [] h (by decide) (by decide)) rfl ⟨rfl,rfl,trivial⟩ (nw_cl h) ⟨rfl,trivial⟩ rfl).mono ?_
 rintro r h' ⟨rfl,rfl⟩
 rfl
theorem zpP (s:NW) (h:NwOk s) (ho:s.out.length≤10000000000000) (hp:s.n.phase=1):
  (∃j f,aix (.int .u32 s.k) optKs=some j∧(optFs.map fun f=>AV.fn (.func f) [.tp 3 0] []).getD j .any= .fn (.func f) [.tp 3 0] []∧ACall Tryz.prog f 6 [.tp 3 0] (nwH s) (fun r h'=>r= .tup []∧h'=nwH (nwOpt s)))∨(aix (.int .u32 s.k) optKs=none∧nwOpt s=nwSay s 2147483649 []):=by
 by_cases k1:s.k=1
 ·exact .inl ⟨_,_,by rw [k1];rfl,rfl,zor s h ho k1⟩
 by_cases k2:s.k=2
 ·exact .inl ⟨_,_,by rw [k2];rfl,rfl,zm1 s h k2⟩
 by_cases k3:s.k=3
 ·exact .inl ⟨_,_,by rw [k3];rfl,rfl,zos s h ho hp k3⟩
 by_cases k6:s.k=6
 ·exact .inl ⟨_,_,by rw [k6];rfl,rfl,zj1 s h ho hp (.inl k6)⟩
 by_cases k7:s.k=7
 ·exact .inl ⟨_,_,by rw [k7];rfl,rfl,zj1 s h ho hp (.inr k7)⟩
 by_cases k8:s.k=8
 ·exact .inl ⟨_,_,by rw [k8];rfl,rfl,zkT s h ho hp k8⟩
 by_cases k9:s.k=9
 ·exact .inl ⟨_,_,by rw [k9];rfl,rfl,zkW s h ho hp k9⟩
 by_cases k10:s.k=10
 ·exact .inl ⟨_,_,by rw [k10];rfl,rfl,zi0 s h ho hp k10⟩
 refine .inr ⟨?_,?_⟩
 ·simp [optKs,aix,sameS,k1,k2,k3,k6,k7,k8,k9,k10]
 ·rw [zax (m:=s.n) (t:=sayS s.k 2147483649 []) k1 (by unfold ngOpt;rw [if_neg k1,if_neg k2,if_neg k3,if_neg (by omega),if_neg k8,if_neg (by omega)])]
  rw [show ngClr s.n=s.n from if_neg (by omega)]
  rfl
def ngFlg (n:Ng):Ng:= { n with buf:=n.buf.drop 4,phase:=if numAt n.buf 0 4=1∨numAt n.buf 0 4=3 then 1 else 3,brief:=numAt n.buf 0 4==3 }
def nwFlg (s:NW):NW:=if s.n.buf.length<4 then s else { s with n:=ngClr (ngFlg s.n) }
theorem zou (s:NW) (hb:s.n.buf.length≤100000000000000):ACall Tryz.prog 96 6 [.tp 3 0] (nwH s) (fun r h'=>r= .d (.bool (decide (4≤s.n.buf.length)))∧h'=nwH (nwFlg s)):=by
 have hZk:takeS s.n.buf 4=if s.n.buf.length<4 then (0,[],22) else (((numAt s.n.buf 0 4:Nat):Int),s.n.buf.drop 4,0):=by
  rw [takeS,if_neg (by decide)]
  by_cases h4:s.n.buf.length<4
  ·rw [if_pos h4,if_pos (by omega)]
  ·rw [if_neg h4,if_neg (by omega)];rfl
 by_cases h4:s.n.buf.length<4
 ·rw [if_pos h4] at hZk
  have hd:decide (4≤s.n.buf.length)=false:=decide_eq_false (by omega)
  have e:nwFlg s=s:=if_pos h4
  rw [e]
  refine bod Tryz.func96 Tryz.ntmps96 (fun base=>?_)
  refine' walkW hZk (zb zab <| za _)
  rw [hd]
 ·rw [if_neg h4] at hZk
  have hd:decide (4≤s.n.buf.length)=true:=decide_eq_true (by omega)
  have e:nwFlg s= { s with n:=ngClr (ngFlg s.n) } :=if_neg h4
  rw [e]
  obtain ⟨N,hN⟩:∃N,N=numAt s.n.buf 0 4:=⟨_,rfl⟩
  have eg:ngClr (ngFlg s.n)=ngClr { s.n with buf:=s.n.buf.drop 4,phase:=if N=1∨N=3 then 1 else 3,brief:=N==3 } :=by rw [hN];rfl
  rw [← hN] at hZk
  rw [eg]
  have e3:((N:Int)==3)=(N==3):=by
   by_cases e:N=3
   ·rw [e];rfl
   ·rw [beq_false_of_ne e,beq_false_of_ne (show (N:Int)≠3 by omega)]
  by_cases hk:N=1∨N=3
  ·rw [if_pos hk]
   have hcc:((N:Int) !=1&&(N:Int) !=3)=false:=by rcases hk with rfl|rfl<;>rfl
   rw [ngClr,if_neg (by show ¬(1:Int)=3;decide)]
   refine bod Tryz.func96 Tryz.ntmps96 (fun base=>?_)
   refine' walkW (zF hZk e3 hcc) (zb zab <| za _)
   all_goals first|rw [hd]|rfl
  ·rw [if_neg hk]
   have hcc:((N:Int) !=1&&(N:Int) !=3)=true:=by simp;omega
   rw [ngClr,if_pos rfl]
   refine bod Tryz.func96 Tryz.ntmps96 (fun base=>?_)
   refine' walkW (zF hZk e3 hcc) (zb zab <| za _)
   refine (zG (zj0 { s with n:= { s.n with buf:=s.n.buf.drop 4,phase:=1,brief:=N==3 } })).mono ?_
   rintro r h' ⟨rfl,rfl⟩
   refine' walkW (zF hZk e3 hcc) (zb zab <| za _)
   all_goals first|rw [hd]|rfl
open Go Go.Proofs
def nwGot (s:NW):NW:= { s with n:= { s.n with buf:=(optRd s.n.buf).2.1 },k:=(optRd s.n.buf).1.1,d:=(optRd s.n.buf).1.2 }
def zbK (s:NW):NW:=if (optRd s.n.buf).2.2=22 then s else if (optRd s.n.buf).2.2≠0 then { s with n:= { s.n with phase:=3,buf:= [] } } else nwOpt (nwGot s)
theorem NwOk.got {s:NW} (h:NwOk s) (he:(optRd s.n.buf).2.2=0):NwOk (nwGot s):=by
 obtain ⟨_,_,h3,e⟩:=zdL he
 have hlt:=z8 s.n.buf 8 4
 refine ⟨h.p,h.out,?_,?_,?_,h.z0,h.z1,h.names,h.name⟩
 ·simp only [nwGot,e];omega
 ·simp only [nwGot,e]
  have:256 ^ 4=4294967296:=by decide
  omega
 ·simp only [nwGot,e,List.length_take];omega
theorem nw_pi {s:NW} (h:NwOk s):(s.p.ids.all fun i=>decide (i<6))=true:=by
 rcases h.p with e|e<;>rw [e]<;>rfl
theorem zhY {n:Ng} {x:Xp} {kk:Int} {d:Txt} (hc:(ctxs x.names).length≤1001):(ngOpt n x kk d).2.length≤10000000:=by
 have hs:∀k t,(sayS kk k t).length≤4116:=fun k t=>zaT ..
 have hz:(sizeS x.size).length=10:=by rw [sizeS,List.length_append,zhu,zaQ];rfl
 have hm:∀ (l:List Txt) (k:Nat) (C:List Txt) (t:Txt) (ids:List Int),(zW kk l k C t ids).1.length≤t.length+4116*C.length:=by
  intro l k C
  induction C generalizing k with
  |nil=>intro t ids;simp [zW]
  | cons c C ih=>
   intro t ids
   rw [zW]
   have:=hs 4 (putS8 ((k+1:Nat):Int) 4++c)
   split
   ·refine Nat.le_trans (ih _ _ _) ?_
    rw [List.length_append,List.length_cons];omega
   ·refine Nat.le_trans (ih _ _ _) ?_
    rw [List.length_cons];omega
 unfold ngOpt zaF
 repeat' split
 all_goals
  dsimp only
  first
  |(simp only [List.length_nil];omega)
  |(exact Nat.le_trans (hs _ _) (by omega))
  |simp only [List.length_append]
 all_goals
  first
  |(rw [hz];simp only [List.length_nil,List.length_replicate];omega)
  |(have h1:=hs 2 (zca [100,105,115,107]);have h2:=hs 1 [];omega)
  |(have h1:=hs 3 ([0,0]++sizeS x.size);have h2:=hs 1 [];omega)
  |(have h1:=hm (zaY d).2.1 0 (ctxs x.names) [] [];have h2:=hs 1 [];simp only [List.length_nil] at h1;omega)
theorem zhZ {s:NW} (h:NwOk s):(ngOpt s.n s.x s.k s.d).2.length≤10000000:=zhY (zgN h).1
theorem zj5 {s:NW} (h:NwOk s) (ho:s.out.length≤10000000000000):NwOk (nwOpt s):=by
 have hl:=zhZ h
 refine ⟨?_,?_,h.k0,h.k1,h.d,h.z0,h.z1,h.names,h.name⟩
 ·unfold nwOpt
  dsimp only
  split
  ·exact h.p
  ·exact .inr rfl
 ·show (s.out++(ngOpt s.n s.x s.k s.d).2).length≤_
  rw [List.length_append];omega
theorem zm8 (s:NW) (h:NwOk s) (ho:s.out.length≤10000000000000) (hb:s.n.buf.length≤100000000000000) (hp:s.n.phase=1):ACall Tryz.prog 97 6 [.tp 3 0] (nwH s) (fun r h'=>r= .d (.bool ((optRd s.n.buf).2.2 !=22))∧h'=nwH (zbK s)):=by
 obtain ⟨O,hO⟩:∃O,O=optRd s.n.buf:=⟨_,rfl⟩
 refine za7 (fun i=>decide (i<6)) ?_
 have hpi:=nw_pi h
 by_cases h22:O.2.2=22
 ·have e:zbK s=s:=if_pos (hO ▸ h22)
  have hb1:(O.2.2==22)=true:=by simpa using h22
  have hb2:(O.2.2 !=22)=false:=by simpa using h22
  rw [e,← hO,hb2]
  refine bod Tryz.func97 Tryz.ntmps97 (fun base=>?_)
  refine' walkW (zF hO.symm hb1 hpi) (zb zbr <| za _)
  rfl
 have hb1:(O.2.2==22)=false:=by simpa using h22
 have hb2:(O.2.2 !=22)=true:=by simpa using h22
 by_cases h0:O.2.2=0
 ·have hb0:(O.2.2==0)=true:=by simpa using h0
  have e:zbK s=nwOpt (nwGot s):=by rw [zbK,← hO,if_neg h22,if_neg (fun e=>e h0)]
  obtain ⟨u,hu⟩:∃u,u=nwGot s:=⟨_,rfl⟩
  have huk:NwOk u:=by rw [hu];exact h.got (hO ▸ h0)
  have huo:u.out.length≤10000000000000:=by rw [hu];exact ho
  have hup:u.n.phase=1:=by rw [hu];exact hp
  have hk:u.k=O.1.1:=by rw [hu,hO];rfl
  rw [e,← hO,← hu,hb2]
  obtain ⟨vs,hvs⟩:∃vs,vs=optFs.map fun f=>AV.fn (.func f) [.tp 3 0] []:=⟨_,rfl⟩
  have hoA:optA 3= .amap optKs vs:=by rw [hvs];rfl
  have hpu:=nw_pi (zj5 huk huo)
  rcases zpP u huk huo hup with ⟨j,f,h1,h2,h3⟩|⟨h1,h2⟩
  ·rw [hk] at h1
   rw [← hvs] at h2
   refine bod Tryz.func97 Tryz.ntmps97 (fun base=>?_)
   refine' zlN (ownsL [2000174]) (zF hO.symm hb1 hb0) (zb zbr <| za _)
   refine ⟨nwH u,6,_,rfl,⟨?_,?_,trivial⟩,nw_cl huk,⟨rfl,trivial⟩,zfO u,?_⟩
   ·rw [hu];rfl
   ·rw [hu,nwGot,← hO];rfl
   rw [hoA]
   simp only [go_sem,aeq,aeq.aeqF,simprocAttr,h1,h2]
   refine ⟨rfl,by kernel_rfl,?_⟩
   refine' zc fx
   refine (zaj h3 rfl ⟨?_,?_,trivial⟩ (nw_cl huk) ⟨rfl,trivial⟩ rfl).mono ?_
   ·rw [hu];rfl
   ·rw [hu,nwGot,← hO];rfl
   rintro r h' ⟨rfl,rfl⟩
   refine' zc hpu
   rfl
  ·rw [hk] at h1
   rw [h2] at hpu ⊢
   refine bod Tryz.func97 Tryz.ntmps97 (fun base=>?_)
   refine' zlN (ownsL [2000174]) (zF hO.symm hb1 hb0) (zb zbr <| za _)
   refine ⟨nwH u,6,_,rfl,⟨?_,?_,trivial⟩,nw_cl huk,⟨rfl,trivial⟩,zfO u,?_⟩
   ·rw [hu];rfl
   ·rw [hu,nwGot,← hO];rfl
   rw [hoA]
   simp only [go_sem,aeq,aeq.aeqF,simprocAttr,h1]
   refine ⟨rfl,by kernel_rfl,?_⟩
   refine' zc fx
   refine (zaj (zpO u huk) rfl ⟨rfl,?_,?_,trivial⟩ ?_ ⟨rfl,trivial⟩ rfl).mono ?_
   ·rw [hu];rfl
   ·rw [hu,nwGot,← hO];rfl
   ·rcases huk.p with e|e<;>simp [inH,idsH,AObj.ids,AV.idsL,AV.ids,nwC,e,hget]
   rintro r h' ⟨rfl,rfl⟩
   refine' zc hpu
   rfl
 ·have e:zbK s= { s with n:= { s.n with phase:=3,buf:= [] } } :=by rw [zbK,← hO,if_neg h22,if_pos h0]
  have hb0:(O.2.2==0)=false:=by simpa using h0
  rw [e,← hO,hb2]
  refine bod Tryz.func97 Tryz.ntmps97 (fun base=>?_)
  refine' walkW (zF hO.symm hb1 hb0) (zb zbr <| za _)
  refine (zaj (zj0 s) rfl ⟨rfl,rfl,trivial⟩ (nw_cl h) ⟨rfl,trivial⟩ rfl).mono ?_
  rintro r h' ⟨rfl,rfl⟩
  refine' zc hpi
  rfl
open Go Go.Proofs
theorem zkZ {n:Ng} {x:Xp} (hc:(ctxs x.names).length≤1001):(ngStep n x).2.1.length≤10000000:=by
 unfold ngStep
 repeat' split
 all_goals first|exact Nat.zero_le _|exact zhY hc
theorem zfP {x:Xp} (hc:(ctxs x.names).length≤1001):∀ (k:Nat) (n:Ng) (out:Txt),(zau x k n out).2.length≤out.length+10000000*k
 |0,n,out=>Nat.le_refl _
 | k+1,n,out=>by
  rw [zau]
  split
  ·split
   ·have h1:=zfP hc k (ngStep n x).1 (out++(ngStep n x).2.1)
    have h2:=zkZ (n:=n) hc
    rw [List.length_append] at h1
    omega
   ·exact Nat.le_add_right _ _
  ·exact Nat.le_add_right _ _
theorem zk0 {n:Ng} {x:Xp} (hc:(ctxs x.names).length≤1001) (s:Txt):(zam n x s).2.length≤10000000*(n.buf.length+s.length+2):=by
 unfold zam
 split
 ·exact Nat.zero_le _
 ·have:=zfP hc (n.buf.length+s.length+2) { n with buf:=n.buf++s } []
  rw [List.length_nil,Nat.zero_add] at this
  exact this
end Go.Aw
