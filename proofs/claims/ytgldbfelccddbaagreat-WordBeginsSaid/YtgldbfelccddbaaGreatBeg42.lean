/-
 A connection's beginning, the program's: nego.Feed.
-/
import Derived.Test.YtgldbfelccddbaaGreatBeg40
set_option maxRecDepth 100000
set_option maxHeartbeats 2000000
set_option linter.unusedSimpArgs false
set_option linter.unusedVariables false
namespace Go.Aw
open Go Go.Proofs
def ngM (n:Ng):Nat:=n.buf.length+(if n.phase=0 then 2 else if n.phase=1 then 1 else 0)
theorem zel (n:Ng):(ngClr n).phase=n.phase:=by unfold ngClr;split<;>rfl
theorem zdm (n:Ng):ngClr (ngClr n)=ngClr n:=by
 unfold ngClr
 split<;>rfl
theorem zkY (x:Xp) (k:Nat) (n:Ng) (out:Txt):zau x k (ngClr n) out=zau x k n out:=by
 cases k with
 |zero=>rw [zau,zau,zdm]
 |succ k=>
  by_cases h3:n.phase=3
  ·rw [zau,zau,if_neg (by rw [zel];omega),if_neg (by omega),zdm]
  ·rw [show ngClr n=n from if_neg h3]
def nwDo (s:NW):NW:=if s.n.phase=0 then nwFlg s else zbK s
structure DoOk (s:NW):Prop where
 yes:(ngStep s.n s.x).2.2=true→(nwDo s).n=ngClr (ngStep s.n s.x).1∧(nwDo s).out=s.out++(ngStep s.n s.x).2.1∧ngM (nwDo s).n<ngM s.n
 no:(ngStep s.n s.x).2.2=false→nwDo s=s
 x:(nwDo s).x=s.x
 ok:NwOk (nwDo s)
 len:(nwDo s).out.length≤s.out.length+10000000
 ph:0≤(nwDo s).n.phase
theorem zj6 {n:Ng} {x:Xp} {k:Int} {d:Txt} :(ngOpt n x k d).1.phase=n.phase∨(ngOpt n x k d).1.phase=2∨(ngOpt n x k d).1.phase=3:=by
 unfold ngOpt zaF
 repeat' split
 all_goals first|exact .inl rfl|exact .inr (.inl rfl)|exact .inr (.inr rfl)
theorem zm9 {n:Ng} {x:Xp} {k:Int} {d:Txt} :(ngOpt n x k d).1.buf=n.buf:=by
 unfold ngOpt zaF
 repeat' split
 all_goals rfl
theorem zna (n:Ng):(ngClr n).buf.length≤n.buf.length:=by
 unfold ngClr
 split
 ·exact Nat.zero_le _
 ·exact Nat.le_refl _
theorem znb (n:Ng):ngM (ngClr n)≤ngM n:=by
 unfold ngM
 rw [zel]
 have:=zna n
 omega
theorem zqE (s:NW) (h:NwOk s) (ho:s.out.length≤10000000000000) (hp:s.n.phase=0∨s.n.phase=1):DoOk s:=by
 rcases hp with hp|hp
 ·have hst:ngStep s.n s.x=if s.n.buf.length<4 then (s.n,[],false) else (ngFlg s.n,[],true):=by
   rw [ngStep,if_pos hp];rfl
  by_cases h4:s.n.buf.length<4
  ·rw [if_pos h4] at hst
   have e:nwFlg s=s:=if_pos h4
   constructor<;>(try rw [nwDo])<;>rw [if_pos hp,e]<;>(try rw [hst])
   ·intro e;cases e
   ·intro _;rfl
   ·exact h
   ·omega
   ·omega
  ·rw [if_neg h4] at hst
   have e:nwFlg s= { s with n:=ngClr (ngFlg s.n) } :=if_neg h4
   have hm:ngM (ngFlg s.n)<ngM s.n:=by
    unfold ngM ngFlg
    simp only [List.length_drop,hp]
    split<;>simp<;>omega
   constructor<;>(try rw [nwDo])<;>rw [if_pos hp,e]<;>(try rw [hst])
   ·intro _;exact ⟨rfl,by simp,Nat.lt_of_le_of_lt (znb _) hm⟩
   ·intro e;cases e
   ·exact h.n _
   ·exact Nat.le_add_right _ _
   ·rw [zel];unfold ngFlg;dsimp only;split<;>omega
 ·have hst:=ngStep.eq_1 s.n s.x
  rw [if_neg (by omega)] at hst
  by_cases h22:(optRd s.n.buf).2.2=22
  ·rw [if_pos h22] at hst
   have e:zbK s=s:=if_pos h22
   constructor<;>(try rw [nwDo])<;>rw [if_neg (by omega),e]<;>(try rw [hst])
   ·intro e;cases e
   ·intro _;rfl
   ·exact h
   ·omega
   ·omega
  ·rw [if_neg h22] at hst
   by_cases h0:(optRd s.n.buf).2.2=0
   ·rw [if_neg (fun e=>e h0)] at hst
    have e:zbK s=nwOpt (nwGot s):=by rw [zbK,if_neg h22,if_neg (fun e=>e h0)]
    have hg:=h.got h0
    have hol:(nwGot s).out.length≤10000000000000:=ho
    have hlen:=zhZ hg
    obtain ⟨_,h16,_,eg⟩:=zdL h0
    constructor<;>(try rw [nwDo])<;>rw [if_neg (by omega),e]<;>(try rw [hst])
    ·intro _
     refine ⟨rfl,rfl,?_⟩
     refine Nat.lt_of_le_of_lt (znb _) ?_
     unfold ngM
     rw [zm9]
     have hbl:(nwGot s).n.buf.length+16≤s.n.buf.length:=by
      show (optRd s.n.buf).2.1.length+16≤_
      rw [eg];simp only [List.length_drop];omega
     have:=zj6 (n:=(nwGot s).n) (x:=(nwGot s).x) (k:=(nwGot s).k) (d:=(nwGot s).d)
     split<;>split<;>omega
    ·intro e;cases e
    ·rfl
    ·exact zj5 hg hol
    ·show ((nwGot s).out++_).length≤_
     rw [List.length_append]
     show s.out.length+_≤_
     omega
    ·show 0≤(ngClr (ngOpt (nwGot s).n (nwGot s).x (nwGot s).k (nwGot s).d).1).phase
     rw [zel]
     have:=zj6 (n:=(nwGot s).n) (x:=(nwGot s).x) (k:=(nwGot s).k) (d:=(nwGot s).d)
     have e1:(nwGot s).n.phase=1:=hp
     omega
   ·rw [if_pos h0] at hst
    have e:zbK s= { s with n:= { s.n with phase:=3,buf:= [] } } :=by rw [zbK,if_neg h22,if_pos h0]
    constructor<;>(try rw [nwDo])<;>rw [if_neg (by omega),e]<;>(try rw [hst])
    ·intro _
     refine ⟨rfl,by simp,?_⟩
     unfold ngM
     simp [hp]
    ·intro e;cases e
    ·exact h.n _
    ·exact Nat.le_add_right _ _
    ·show (0:Int)≤3;decide
theorem znc {x:Xp} {k:Nat} {s:NW} (hx:s.x=x) (hp:s.n.phase=0∨s.n.phase=1) (h:DoOk s):zau x (k+1) s.n s.out=if (ngStep s.n s.x).2.2 then zau x k (nwDo s).n (nwDo s).out else (s.n,s.out):=by
 rw [zau,if_pos hp,hx]
 split
 ·rename_i e
  rw [← hx] at e
  obtain ⟨e1,e2,_⟩:=h.yes e
  rw [e1,e2,zkY,hx]
 ·rfl
theorem znd (n:Ng):n.buf.length≤ngM n:=Nat.le_add_right _ _
theorem zoX {s:NW} (h:NwOk s):inH (nwH s++ [(4,.var [.fn (.func 96) [.tp 3 0] [],.fn (.func 97) [.tp 3 0] []]),(2,.var [.d (.int .i64 0),.d (.str []),.d (.bool false),.d (.bool false),.d (.sl 1 [])])]) (s.p.ids++ [5]++ [3,3]):=by
 rcases h.p with e|e<;>simp [inH,AV.ids,e,hget]
theorem zgQ (s:NW) (h:NwOk s):ACall Tryz.prog 98 6 [.tp 3 9] (nwH s) (fun r h'=>r= .d (.str s.out)∧h'= [(5,.buf 5 gone),(3,.tvar 182 (nwC s))]):=
 (zeM (i:=3) (j:=5) (o:=9) (T:=182) (cs:=nwC s) (xs:=s.out) rfl rfl rfl rfl (by have:=h.out;omega)).below
theorem zov (n:Ng) (x:Xp) (s:Txt) (h0:0≤n.phase) (hl:n.buf.length+s.length≤900000) (z0:0≤x.size) (z1:x.size<18446744073709551616) (hn:x.names.length≤1000) (hnn:∀t∈x.names,t.length≤1000):ACall Tryz.prog 42 0 [ngA n,xpA x,.d (.str s)] [] (fun r _=>r= .tup [ngA (zam n x s).1,.d (.str (zam n x s).2)]):=by
 obtain ⟨V,hV⟩:∃V,V=zam n x s:=⟨_,rfl⟩
 rw [← hV]
 refine fbod Tryz.func42 Tryz.ntmps42 (fun base=>?_)
 by_cases h3:n.phase=3
 ·have h3b:(n.phase==3)=true:=by simpa using h3
  rw [zam,if_pos h3] at hV
  refine' zc h3b
  rw [hV]
 have h3b:(n.phase==3)=false:=by simpa using h3
 rw [zam,if_neg h3] at hV
 refine' zar (zP 6) h3b
 refine zeN 3 10 rfl rfl ?_
 simp only [go_sem,aeq,aeq.aeqF,simprocAttr]
 obtain ⟨s0,hs0⟩:∃s0:NW,s0=⟨{ n with buf:=n.buf++s },x,0,[],.d .nilp,[]⟩:=⟨_,rfl⟩
 have hok0:NwOk s0:=by rw [hs0];exact ⟨.inl rfl,Nat.zero_le _,Int.le_refl 0,(by show (0:Int)≤4294967295;decide),Nat.zero_le _,z0,z1,hn,hnn⟩
 obtain ⟨N,hN⟩:∃N,N=n.buf.length+s.length+2:=⟨_,rfl⟩
 have hM0:ngM s0.n≤N:=by rw [hs0,hN];unfold ngM;simp only [List.length_append];split<;>(try split)<;>omega
 have hV0:V=zau x N s0.n s0.out:=by rw [hV,hs0,hN]
 have hx0:s0.x=x:=by rw [hs0]
 have hp0:0≤s0.n.phase:=by rw [hs0];exact h0
 have hc0:ngClr s0.n=s0.n:=if_neg (by rw [hs0];exact h3)
 have ho0:s0.out.length+10000000*ngM s0.n≤9100000000000:=by rw [hs0];rw [hs0] at hM0;show 0+_≤_;omega
 refine zt (fun q: { q:NW×Nat // NwOk q.1∧q.1.x=x∧ngM q.1.n≤q.2∧V=zau x q.2 q.1.n q.1.out∧0≤q.1.n.phase∧ngClr q.1.n=q.1.n∧q.1.out.length+10000000*ngM q.1.n≤9100000000000 } =>⟨[(6,true,.vp 2 0),(8,true,.tp 3 0),(9,true,.vp 4 0)],nwH q.1.1++ [(4,.var [.fn (.func 96) [.tp 3 0] [],.fn (.func 97) [.tp 3 0] []]),(2,.var [.d (.int .i64 0),.d (.str []),.d (.bool false),.d (.bool false),.d (.sl 1 [])])],some []⟩) (fun q=>ngM q.1.1.n) ⟨(s0,N),hok0,hx0,hM0,hV0,hp0,hc0,ho0⟩ (by subst hs0;simp only [AS.le,leT,leH,zh,AsgK,AV.le,AV.leL,AObj.le,inH,idsT,idsH,AV.ids,AV.idsL,AV.idsR,AObj.ids,lk,hget,go_sem,aeq,aeq.aeqF,simprocAttr]<;>and_intros<;>rfl) (fun q=>?_)
 obtain ⟨⟨w,k⟩,hok,hx,hM,hVk,hph,hcl,ho⟩:=q
 simp only at hok hx hM hVk hph hcl ho ⊢
 have hol:w.out.length≤10000000000000:=by omega
 rcases Int.lt_or_le w.n.phase 2 with hlt|hge
 ·have hcmp:decide (w.n.phase<2)=true:=decide_eq_true hlt
  have hcs:w.n.phase=0∨w.n.phase=1:=by omega
  have D:=zqE w hok hol hcs
  obtain ⟨k,rfl⟩:∃k',k=k'+1:=⟨k - 1,by
   have:1≤ngM w.n:=by unfold ngM;rcases hcs with e|e<;>simp only [e]<;>simp<;>omega
   omega⟩
  have hNo:=znc (k:=k) hx hcs D
  rcases hcs with hp|hp
  ·have e:nwDo w=nwFlg w:=if_pos hp
   have hB:decide (4≤w.n.buf.length)=(ngStep w.n w.x).2.2:=by
    rw [ngStep,if_pos hp]
    split
    ·exact decide_eq_false (by omega)
    ·exact decide_eq_true (by omega)
   refine' zc (zu hcmp hp)
   refine (zaj (zou w (by have:=znd w.n;omega)) rfl ⟨rfl,by simp [hget,nwC,hp],trivial⟩ (nw_cl hok) ⟨rfl,trivial⟩ rfl).mono ?_
   rintro r h' ⟨rfl,rfl⟩
   rw [hB,← e]
   cases hb:(ngStep w.n w.x).2.2 with
   |true=>
    obtain ⟨e1,e2,e3⟩:=D.yes hb
    have hok':=D.ok
    rw [hb,if_pos rfl] at hNo
    have hxd:=D.x
    have hlen:=D.len
    simp only [go_sem,aeq,aeq.aeqF,simprocAttr]
    refine' zc fx
    exact ⟨⟨(nwDo w,k),D.ok,by rw [hxd,hx],by show ngM (nwDo w).n≤k;omega,by rw [hVk,hNo],D.ph,by rw [e1,zdm],by show (nwDo w).out.length+10000000*ngM (nwDo w).n≤_;omega⟩,by simp only [AS.le,leT,leH,zh,AsgK,AV.le,AV.leL,AObj.le,inH,idsT,idsH,AV.ids,AV.idsL,AV.idsR,AObj.ids,lk,hget,go_sem,aeq,aeq.aeqF,simprocAttr,hp]<;>and_intros<;>first|rfl|exact AV.le_refl _|exact zoX D.ok,e3⟩
   |false=>
    have hVf:V=(w.n,w.out):=by rw [hVk,hNo,hb];rfl
    rw [D.no hb]
    simp only [go_sem,aeq,aeq.aeqF,simprocAttr]
    refine' zeI (ownsL [4000098]) fx
    refine ⟨5,.buf 5 w.out,.buf 5 gone,[(3,.tvar 182 (nwC w))],6,.d (.str w.out),rfl,⟨rfl,rfl,trivial⟩,nw_cl hok,⟨rfl,trivial⟩,zgQ w hok,?_⟩
    simp only [go_sem,aeq,aeq.aeqF,simprocAttr]
    refine ⟨by kernel_rfl,?_⟩
    refine' zc fx
    rw [hVf]
  ·have e:nwDo w=zbK w:=if_neg (by omega)
   have hB:((optRd w.n.buf).2.2 !=22)=(ngStep w.n w.x).2.2:=by
    rw [ngStep,if_neg (by omega)]
    split
    ·rename_i h22;rw [h22];rfl
    ·rename_i h22
     split<;>simpa using h22
   refine' zc (zu hcmp hp)
   refine (zaj (zm8 w hok hol (by have:=znd w.n;omega) hp) rfl ⟨rfl,by simp [hget,nwC,hp],trivial⟩ (nw_cl hok) ⟨rfl,trivial⟩ rfl).mono ?_
   rintro r h' ⟨rfl,rfl⟩
   rw [hB,← e]
   cases hb:(ngStep w.n w.x).2.2 with
   |true=>
    obtain ⟨e1,e2,e3⟩:=D.yes hb
    have hok':=D.ok
    rw [hb,if_pos rfl] at hNo
    have hxd:=D.x
    have hlen:=D.len
    simp only [go_sem,aeq,aeq.aeqF,simprocAttr]
    refine' zc fx
    exact ⟨⟨(nwDo w,k),D.ok,by rw [hxd,hx],by show ngM (nwDo w).n≤k;omega,by rw [hVk,hNo],D.ph,by rw [e1,zdm],by show (nwDo w).out.length+10000000*ngM (nwDo w).n≤_;omega⟩,by simp only [AS.le,leT,leH,zh,AsgK,AV.le,AV.leL,AObj.le,inH,idsT,idsH,AV.ids,AV.idsL,AV.idsR,AObj.ids,lk,hget,go_sem,aeq,aeq.aeqF,simprocAttr,hp]<;>and_intros<;>first|rfl|exact AV.le_refl _|exact zoX D.ok,e3⟩
   |false=>
    have hVf:V=(w.n,w.out):=by rw [hVk,hNo,hb];rfl
    rw [D.no hb]
    simp only [go_sem,aeq,aeq.aeqF,simprocAttr]
    refine' zeI (ownsL [4000098]) fx
    refine ⟨5,.buf 5 w.out,.buf 5 gone,[(3,.tvar 182 (nwC w))],6,.d (.str w.out),rfl,⟨rfl,rfl,trivial⟩,nw_cl hok,⟨rfl,trivial⟩,zgQ w hok,?_⟩
    simp only [go_sem,aeq,aeq.aeqF,simprocAttr]
    refine ⟨by kernel_rfl,?_⟩
    refine' zc fx
    rw [hVf]
 ·have hcmp:decide (w.n.phase<2)=false:=decide_eq_false (by omega)
  have hgd: [AV.fn (.func 96) [.tp 3 0] [],AV.fn (.func 97) [.tp 3 0] []].getD (w.n.phase.toNat*1) .any= .any:=by
   rw [List.getD_eq_getElem?_getD,List.getElem?_eq_none (by simp only [List.length_cons,List.length_nil];omega)];rfl
  refine' zeI (ownsL [4000098]) (zu hcmp hgd)
  have hVf:V=(w.n,w.out):=by
   rw [hVk]
   cases k with
   |zero=>rw [zau,hcl]
   |succ k=>rw [zau,if_neg (by omega),hcl]
  refine ⟨5,.buf 5 w.out,.buf 5 gone,[(3,.tvar 182 (nwC w))],6,.d (.str w.out),rfl,⟨rfl,rfl,trivial⟩,nw_cl hok,⟨rfl,trivial⟩,zgQ w hok,?_⟩
  simp only [go_sem,aeq,aeq.aeqF,simprocAttr]
  refine ⟨by kernel_rfl,?_⟩
  refine' zc fx
  rw [hVf]
end Go.Aw
