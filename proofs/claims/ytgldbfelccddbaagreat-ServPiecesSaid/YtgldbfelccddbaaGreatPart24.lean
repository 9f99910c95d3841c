/-
 Parts of the proof: lemmas.
-/
import Derived.Test.YtgldbfelccddbaaGreatPart21
import Derived.Test.YtgldbfelccddbaaGreatPart20
set_option maxRecDepth 100000
set_option maxHeartbeats 2000000
set_option linter.unusedSimpArgs false
set_option linter.unusedVariables false
namespace Go.Aw
open Go Go.Proofs
abbrev zcX (c:Cn):Prop:=c.n.phase=2∧c.gone=false∧c.tasks.length<8
def cnBuf (c:Cn):Cn:= { c with n:= { c.n with buf:=(reqRd c.n.buf).2.1 } }
abbrev zqi (size:Int) (c:Cn):Prop:=(reqRd c.n.buf).2.2≠0∨(reqRd c.n.buf).1.kind=2∧zau (reqRd c.n.buf).1 size c.n.chunks c.n.metas=0
def cnNx (size:Int) (c:Cn):Cn:=if (reqRd c.n.buf).2.2=22 then c else if zqi size c then zcp c else cnOne size c
def tkIt (c:Cn):List AV:= [rqA (reqRd c.n.buf).1,.d (.int .i64 (reqRd c.n.buf).2.2)]
def zaN (size:Int):Nat→Cn→List (List AV)
 |0,_=> []
 |k+1,c=>if zcX c then (if (reqRd c.n.buf).2.2=0 then tick::tkIt c::zaN size k (cnNx size c) else [tkIt c]) else []
def tkSt (size:Int):Nat→Cn→List (List AV)→Cn
 |0,c,_=>c
 |_+1,c,[]=>c
 |k+1,c,_::xs=>if (reqRd c.n.buf).2.2=0 then (match xs with| []=>cnBuf c|_::ys=>tkSt size k (cnNx size c) ys) else cnNx size c
theorem zhU {size:Int} {c:Cn} :∀k,tkSt size k c []=c
 |0=>rfl
 |_+1=>rfl
theorem zlr {size:Int} {c:Cn} (h:(reqRd c.n.buf).2.2=0):(cnNx size c).n.buf.length<c.n.buf.length:=by
 have:=zd9 h
 unfold cnNx
 rw [if_neg (by rw [h];decide)]
 split
 ·simp only [zcp,List.length_nil];omega
 ·rw [ze5];omega
theorem zfZ {size:Int} {k:Nat} {c:Cn} (h:zcX c):zaV size (k+1) c=if (reqRd c.n.buf).2.2=0 then zaV size k (cnNx size c) else cnNx size c:=by
 rw [zcK h]
 unfold cnNx
 by_cases h0:(reqRd c.n.buf).2.2=0
 ·have h22:¬(reqRd c.n.buf).2.2=22:=by omega
  rw [if_neg h22,if_neg h22,if_pos h0]
  by_cases hd:zqi size c
  ·rw [if_pos hd,if_pos hd,zbz rfl]
  ·rw [if_neg hd,if_neg hd]
 ·rw [if_neg h0]
  by_cases h22:(reqRd c.n.buf).2.2=22
  ·rw [if_pos h22,if_pos h22]
  ·rw [if_neg h22,if_neg h22,if_pos (.inl h0),if_pos (.inl h0)]
theorem zxd {size:Int} :∀ (k:Nat) (c:Cn),tkSt size k c (zaN size k c)=zaV size k c
 |0,c=>rfl
 | k+1,c=>by
  by_cases h:zcX c
  ·rw [zaN,if_pos h,zfZ h]
   split
   ·rename_i h0
    rw [tkSt,if_pos h0]
    exact zxd k _
   ·rename_i h0
    rw [tkSt,if_neg h0]
  ·rw [zaN,if_neg h,zhU,zbb h]
theorem zxe {size:Int} :∀ {k:Nat} {c:Cn} {x:List AV},x∈zaN size k c→x=tick∨x.length=2
 |0,c,x,h=>by rw [zaN] at h;cases h
 | k+1,c,x,h=>by
  rw [zaN] at h
  split at h
  ·split at h
   ·rcases List.mem_cons.1 h with h|h
    ·exact .inl h
    rcases List.mem_cons.1 h with h|h
    ·exact .inr (by rw [h];rfl)
    ·exact zxe h
   ·rw [List.mem_singleton.1 h]
    exact .inr rfl
  ·cases h
theorem zxf {size:Int} {P:Cn→Prop} (hP:∀c,P c→zcX c→(reqRd c.n.buf).2.2=0→P (cnNx size c)):∀ (k:Nat) (c:Cn) (xs:List (List AV)) (x:List AV),P c→c.n.buf.length+1≤k→x≠tick→(xs++ [x])<+:zaN size k c→
  ∃c0,P c0∧zcX c0∧x=tkIt c0∧tkSt size k c xs=(if (reqRd c0.n.buf).2.2=0 then cnBuf c0 else c0)∧tkSt size k c (xs++ [x])=cnNx size c0∧∃m,c0.n.buf.length+1≤m∧zaV size k c=zaV size m c0
 |0,c,xs,x,h,hk,hx,hp=>U
 | k +1,c,xs,x,h,hk,hx,hp=>by
  by_cases hm:zcX c
  ·rw [zaN,if_pos hm] at hp
   by_cases h0:(reqRd c.n.buf).2.2=0
   ·rw [if_pos h0] at hp
    match xs,hp with
    | [],hp=>
     rw [List.nil_append,List.cons_prefix_cons] at hp
     exact absurd hp.1 hx
    | [a],hp=>
     rw [List.cons_append,List.nil_append,List.cons_prefix_cons,List.cons_prefix_cons] at hp
     refine ⟨c,h,hm,hp.2.1,by rw [tkSt,if_pos h0,if_pos h0],?_,k+1,hk,rfl⟩
     rw [List.cons_append,List.nil_append,tkSt,if_pos h0]
     exact zhU k
    |a::b::ys,hp=>
     rw [List.cons_append,List.cons_append,List.cons_prefix_cons,List.cons_prefix_cons] at hp
     have hb:=zlr (size:=size) h0
     obtain ⟨c0,g1,g2,g3,g4,g5,m,g6,g7⟩:=zxf hP k (cnNx size c) ys x (hP c h hm h0) U hx hp.2.2
     refine ⟨c0,g1,g2,g3,?_,?_,m,g6,?_⟩
     ·rw [tkSt,if_pos h0];exact g4
     ·rw [List.cons_append,List.cons_append,tkSt,if_pos h0];exact g5
     ·rw [zfZ hm,if_pos h0];exact g7
   ·rw [if_neg h0] at hp
    match xs,hp with
    | [],hp=>
     rw [List.nil_append,List.cons_prefix_cons] at hp
     refine ⟨c,h,hm,hp.1,by rw [if_neg h0];rfl,?_,k+1,hk,rfl⟩
     rw [List.nil_append,tkSt,if_neg h0]
    |a::ys,hp=>
     have:=hp.length_le
     simp at this
  ·rw [zaN,if_neg hm] at hp
   have:=hp.length_le
   simp at this
structure TkAt (size:Int) (k:Nat) (c:Cn) (xs:List (List AV)) (m:Nat) (c0:Cn):Prop where
 items:zaN size k c=xs++zaN size m c0
 st:∀ys,tkSt size k c (xs++ys)=tkSt size m c0 ys
 fuel:c0.n.buf.length+1≤m
theorem TkAt.first {size:Int} {c:Cn} {k:Nat} (h:c.n.buf.length+1≤k):TkAt size k c [] k c:=⟨rfl,fun _=>rfl,h⟩
theorem TkAt.here {size:Int} {k m:Nat} {c c0:Cn} {xs:List (List AV)} (h:TkAt size k c xs m c0):tkSt size k c xs=c0:=by
 have:=h.st []
 rw [List.append_nil,zhU] at this
 exact this
theorem TkAt.no {size:Int} {k m:Nat} {c c0:Cn} {xs:List (List AV)} (h:TkAt size k c xs m c0) (hm:¬zcX c0):xs=zaN size k c:=by
 have:=h.fuel
 obtain ⟨m,rfl⟩:∃m',m=m'+1:=⟨m - 1,U⟩
 rw [h.items,zaN,if_neg hm,List.append_nil]
theorem TkAt.bad {size:Int} {k m:Nat} {c c0:Cn} {xs:List (List AV)} (h:TkAt size k c xs m c0) (hm:zcX c0) (h0:(reqRd c0.n.buf).2.2≠0):zaN size k c=xs++ [tkIt c0]:=by
 have:=h.fuel
 obtain ⟨m,rfl⟩:∃m',m=m'+1:=⟨m - 1,U⟩
 rw [h.items,zaN,if_pos hm,if_neg h0]
theorem TkAt.go {size:Int} {k m:Nat} {c c0:Cn} {xs:List (List AV)} (h:TkAt size k c xs m c0) (hm:zcX c0) (h0:(reqRd c0.n.buf).2.2=0):(xs++ [tick]++ [tkIt c0])<+:zaN size k c∧tkSt size k c (xs++ [tick])=cnBuf c0∧TkAt size k c (xs++ [tick]++ [tkIt c0]) (m - 1) (cnNx size c0):=by
 have hf:=h.fuel
 obtain ⟨m,rfl⟩:∃m',m=m'+1:=⟨m - 1,U⟩
 have hi:=h.items
 rw [zaN,if_pos hm,if_pos h0] at hi
 have hb:=zlr (size:=size) h0
 refine ⟨⟨zaN size m (cnNx size c0),by rw [hi];simp⟩,?_,by rw [hi];simp,fun ys=>?_,U⟩
 ·rw [h.st,tkSt,if_pos h0]
 ·rw [List.append_assoc,List.append_assoc,h.st]
  simp only [List.cons_append,List.nil_append,tkSt,if_pos h0]
  rfl
open Go Go.Proofs
def swI (s:SW) (c:Cn):SW:=if c.gone=true then (if s.o.gone=true then { s with o:=c } else { s with o:=c,tv:= .nils 12 }) else { s with o:=c,tv:= .osl 34 12 c.tasks.length 0 c.tasks.length,ts:=c.tasks.map tskD }
theorem swI_o {s:SW} {c:Cn} :(swI s c).o=c:=by
 unfold swI
 split
 ·split<;>rfl
 ·rfl
theorem zqj {s:SW} (h:SwOk s):swI s s.o=s:=by
 unfold swI
 split
 ·rfl
 ·rename_i hg
  rcases h.t with ⟨h1,h2⟩|⟨_,_,h3⟩
  ·rw [← h1,← h2]
  ·exact absurd h3 hg
abbrev tkH (xp:Xp) (s:SW):AHeap:=(80,.var [.vp 21 0])::tkH0 xp s
theorem ziP {xp:Xp} {s:SW} (h:AV.idsL s.pre= []) (h2:AV.idsL s.post= []) (h3:s.tv.ids= [34]∨s.tv.ids= []):inH (tkH xp s) (idsH (tkH xp s)):=by
 rcases h3 with e|e<;>simp [inH,idsH,AObj.ids,AV.idsL,AV.ids,swC,rowC,e,hget,h,h2,zg]
theorem zyc {s:SW} {c:Cn} (h:AV.idsL s.pre= []) (h2:AV.idsL s.post= []) (h3:s.tv.ids= [34]∨s.tv.ids= []):AV.idsL (swI s c).pre= []∧AV.idsL (swI s c).post= []∧((swI s c).tv.ids= [34]∨(swI s c).tv.ids= []):=by
 unfold swI
 split
 ·split
  ·exact ⟨h,h2,h3⟩
  ·exact ⟨h,h2,.inr rfl⟩
 ·exact ⟨h,h2,.inl rfl⟩
theorem zwI {b n:Nat} {s:SW} {xp:Xp} {size:Int} {K:Nat} {J:Code→AHeap→Option (List (List AV))→Prop} {rec:LoopState→Option Code→Loop} {E0:Env} {h0:AHeap} {w0:World} {ds:List Deferred} {u:Value} {P:Cn→Prop}
  (hp:AV.idsL s.pre= []) (hq:AV.idsL s.post= []) (ht:s.tv.ids= [34]∨s.tv.ids= []) (hK:s.o.n.buf.length+1≤K) (hP0:P s.o) (hP:∀c,P c→zcX c→(reqRd c.n.buf).2.2=0→P (cnNx size c)) (hPl:∀c,P c→c.n.buf.length≤9223372036854775807∧c.tasks.length≤1000)
  (I:List (List AV)→AHeap×Option (List (List AV))) (hI:∀xs,I xs=(tkH xp (swI s (tkSt size K s.o xs)),some []))
  (y:Yo (cxOf Tryz.prog b n 60).P (zaN size K s.o)) (hy:y.G=zbA (cxOf Tryz.prog b n 60) (w0.heap.size+1) w0.heap.size 100 (fun _=>false) E0 h0 w0 ds I J rec) (hs0:SatH E0 h0 w0) (hmk:∀b,zap ds b→b<w0.heap.size) (hu:Rep w0 E0 h0 (.vp 80 0) u)
  {E:Env} {w:World} (hE:SatH E [] w) (hG:y.G (some []) E.M E.N (Own E []) w):
  Calls Tryz.prog 177 (#[]++ #[Value.func (.yield y.yl) #[] #[]]++ #[u]) w (fun e w'=>∃v E' h' g,e= .returned v∧((∀xs,g=some xs→xs=zaN size K s.o)∧h'= [])∧SatH E' h' w'∧Evo 100 E [] w E' h' w'∧y.G g E'.M E'.N (Own E' h') w'):=by
 refine zh8 (rq:=true) (fl:=100) (pre:= []) (caps:= [.raw u]) (h:= []) (K:=fun g h'=>(∀xs,g=some xs→xs=zaN size K s.o)∧h'= []) Tryz.func177 rfl Tryz.ntmps177 rfl aa y (fun base=>?_) hE bO (by simp [Reps,Rep]) hG
 have hin:∀ {c:Code} {Q:Exit→AS→Prop} {xs:List (List AV)} {t:List (Nat×(Bool×AV))},zet u t→LA I y base 68 100 100 80 u c Q { t:=mapT (lend1 80) t,h:=(I xs).1,g:=none } →AW (cxY (cxOf Tryz.prog b n 60).P base 68 100 y true) c Q { t:=t,h:= [],g:=some xs } :=
  fun hr h=>la_in (cx:=cxOf Tryz.prog b n 60) 80 u hy hs0 hmk (fun _ _ _ _ _=>trivial) hu ae (fun xs=>by rw [hI];rfl) hr h
 refine zcl ?_
 refine zk (fun q: { q:List (List AV)×Nat×Cn // TkAt size K s.o q.1 q.2.1 q.2.2∧P q.2.2 } =>⟨[(0,true,.fn (.yield y.yl) [] []),(1,true,.raw u)],[],some q.1.1⟩) (fun q=>q.1.2.1) ⟨([],K,s.o),TkAt.first hK,hP0⟩ le1 (fun q=>?_)
 obtain ⟨⟨xs,m,c⟩,hT,hPc⟩:=q
 simp only at hT hPc ⊢
 have hst:=hT.here
 by_cases hm:zcX c
 ·have hph:(c.n.phase==2)=true:=by rw [hm.1];rfl
  have hgn:(!c.gone)=true:=by rw [hm.2.1];rfl
  have htl:decide ((c.tasks.length:Int)<8)=true:=decide_eq_true (by have:=hm.2.2;omega)
  have hIx:(I xs).1=tkH xp { s with o:=c,tv:= .osl 34 12 c.tasks.length 0 c.tasks.length,ts:=c.tasks.map tskD } :=by rw [hI,hst,swI,if_neg (by rw [hm.2.1];decide)]
  refine zbm (fun K1 hK1=>?_)
  refine hin (by simp [zet]) (la_aw ?_)
  rw [hIx]
  simp only [go_sem,aeq,aeq.aeqF,simprocAttr]
  refine' zc (zq hph hgn htl)
  refine ⟨xs,cS,df,?_⟩
  refine hK1 _ ?_
  clear hK1 K1
  refine aw_le ⟨[(0,true,.fn (.yield y.yl) [] []),(1,true,.raw u)],[],some xs⟩ le1 ?_
  refine zcl ?_
  have hrl:=(hPl c hPc).1
  refine hin (by simp [zet]) ?_
  rw [hIx]
  simp only [go_sem,aeq,aeq.aeqF,simprocAttr]
  refine zxc (fun K hK=>?_)
  refine' walkW fx (za zmR <| zb _)
  refine zxc (fun K hK=>?_)
  by_cases h0:(reqRd c.n.buf).2.2=0
  ·have he:((reqRd c.n.buf).2.2==0)=true:=by rw [h0];rfl
   have he2:((reqRd c.n.buf).2.2 !=0)=false:=by rw [h0];rfl
   refine' zc he
   refine zuF (zb _) 3 ?_
   simp only [go_sem,aeq,aeq.aeqF,simprocAttr,he2]
   obtain ⟨g1,g2,g3⟩:=hT.go hm h0
   have hI2:(I (xs++ [tick])).1=tkH xp { s with o:=cnBuf c,tv:= .osl 34 12 c.tasks.length 0 c.tasks.length,ts:=c.tasks.map tskD } :=by rw [hI,g2,swI,if_neg (by rw [cnBuf,hm.2.1];decide)];rfl
   refine ⟨xs++ [tick],by rw [hI2];unfold cnBuf;simp only [AS.le,leT,leH,zf,AsgK,AV.le,AV.leL,AObj.le,inH,idsT,idsH,AV.ids,AV.idsL,AV.idsR,AObj.ids,lk,hget,go_sem,aeq,aeq.aeqF,simprocAttr,rowC,swC]<;>and_intros<;>first|rfl|exact AV.leL_refl _,by rw [hI2];exact ziP hp hq (.inl rfl),g1,?_,?_⟩
   ·refine' zc fx
    exact ⟨⟨(xs++ [tick]++ [tkIt c],m - 1,cnNx size c),g3,hP c hPc hm h0⟩,by simp only [AS.le,leT,leH,zf,AsgK,AV.le,AV.leL,AObj.le,inH,idsT,idsH,AV.ids,AV.idsL,AV.idsR,AObj.ids,lk,hget,go_sem,aeq,aeq.aeqF,simprocAttr]<;>and_intros<;>rfl,by have:=hT.fuel;simp only;omega⟩
   ·refine' zc fx
  ·have he:((reqRd c.n.buf).2.2==0)=false:=by simpa using h0
   have he2:((reqRd c.n.buf).2.2 !=0)=true:=ck
   have hbad:=hT.bad hm h0
   refine' zc he
   refine zuF (zb _) 3 ?_
   simp only [go_sem,aeq,aeq.aeqF,simprocAttr,he2]
   refine ⟨xs,cS,df,by rw [hbad];exact List.prefix_refl _,?_,?_⟩
   ·refine' zc fx
    rintro zs rfl
    exact hbad.symm
   ·refine' zc fx
 ·have hxs:=hT.no hm
  refine zbm (fun K1 hK1=>?_)
  refine hin (by simp [zet]) (la_aw ?_)
  obtain ⟨i1,i2,i3⟩:=zyc (c:=c) hp hq ht
  have hio:(swI s c).o=c:=swI_o
  by_cases h1:c.n.phase=2∧c.gone=false
  ·have hph:(c.n.phase==2)=true:=by rw [h1.1];rfl
   have hgn:(!c.gone)=true:=by rw [h1.2];rfl
   have htl:decide ((c.tasks.length:Int)<8)=false:=decide_eq_false (fun e=>hm ⟨h1.1,h1.2,U⟩)
   have hIx:(I xs).1=tkH xp { s with o:=c,tv:= .osl 34 12 c.tasks.length 0 c.tasks.length,ts:=c.tasks.map tskD } :=by rw [hI,hst,swI,if_neg (by rw [h1.2];decide)]
   rw [hIx]
   simp only [go_sem,aeq,aeq.aeqF,simprocAttr]
   refine' zc (zq hph hgn htl)
   refine ⟨xs,cS,df,?_⟩
   rintro zs rfl
   exact hxs
  ·obtain ⟨σ,hσ⟩:∃σ,σ=swI s c:=⟨_,rfl⟩
   have hIx:(I xs).1=tkH xp σ:=by rw [hI,hst,hσ]
   rw [← hσ] at i1 i2 i3 hio
   rw [hIx]
   simp only [go_sem,aeq,aeq.aeqF,simprocAttr]
   cases hph:(c.n.phase==2) with
   |false=>
    refine' zc (zj hio hph)
    refine ⟨xs,dF,by rw [hIx];exact ziP i1 i2 i3,?_⟩
    rintro zs rfl
    exact hxs
   | true=>
    have hgn:(!c.gone)=false:=by
     cases hg:c.gone with
     |true=>rfl
     |false=>exact absurd ⟨beqP hph,hg⟩ h1
    refine' zc (zq hio hph hgn)
    refine ⟨xs,dF,by rw [hIx];exact ziP i1 i2 i3,?_⟩
    rintro zs rfl
    exact hxs
open Go Go.Proofs
def MsOk (l:List Int):Prop:=l.length≤3∧∀m∈l,1≤m∧m≤3
theorem MsOk.nil:MsOk []:=⟨Nat.zero_le _,fun m hm=>by cases hm⟩
theorem zf0 {k:Int} {l:List Txt} :∀ (cs:List Txt) (i:Nat) (s:Txt) (ids:List Int),i+cs.length≤3→ids.length≤i→(∀m∈ids,1≤m∧m≤3)→MsOk (zao k l i cs s ids).2
 | [],i,s,ids,h1,h2,h3=>⟨by simp only [zao];omega,h3⟩
 | c::r,i,s,ids,h1,h2,h3=>by
  rw [List.length_cons] at h1
  rw [zao]
  split
  ·refine zf0 r (i+1) _ _ U af (fun m hm=>?_)
   rcases List.mem_append.1 hm with hm|hm
   ·exact h3 m hm
   ·rw [List.mem_singleton] at hm
    omega
  ·exact zf0 r (i+1) _ _ U U h3
theorem zwK {n:Ng} {x:Xp} {k:Int} {d:Txt} (hx:x.names.length≤2) (h:MsOk n.metas):MsOk (ngOpt n x k d).1.metas:=by
 have hc:0+(ctxs x.names).length≤3:=by simp [ctxs];omega
 have h1:MsOk (if k=10 then [] else n.metas):=by
  split
  ·exact MsOk.nil
  ·exact h
 unfold ngOpt
 split
 ·split<;>exact h
 split
 ·exact h
 split
 ·split<;>exact h
 split
 ·split
  ·exact h
  split<;>exact h
 split
 ·split<;>exact h
 split
 ·unfold za5
  split
  ·exact h1
  split
  ·exact h1
  split
  ·exact h1
  ·simp only
   split
   ·exact zf0 _ 0 _ _ hc (Nat.le_refl _) (fun m hm=>by cases hm)
   ·exact h
 ·exact h
theorem zuI {n:Ng} {x:Xp} (hx:x.names.length≤2) (h:MsOk n.metas):MsOk (ngStep n x).1.metas:=by
 unfold ngStep
 split
 ·split<;>exact h
 split
 ·exact h
 split
 ·exact h
 ·exact zwK (n:= { n with buf:=(optRd n.buf).2.1 }) hx h
theorem zuJ {n:Ng} {x:Xp} (hp:n.phase=0∨n.phase=1):(ngStep n x).1.buf.length≤n.buf.length:=by
 cases h:(ngStep n x).2.2 with
 |true=>
  rcases zfX hp h with h1|⟨_,h1⟩
  ·omega
  ·rw [h1];exact Nat.le_refl _
 | false=>
  unfold ngStep at h ⊢
  split at h
  ·rename_i h0
   split at h
   ·rename_i h1
    rw [if_pos h0,if_pos h1]
    exact Nat.le_refl _
   ·simp at h
  rename_i h0
  split at h
  ·rename_i h1
   rw [if_neg h0,if_pos h1]
   exact Nat.le_refl _
  split at h<;>simp at h
theorem zqk {n:Ng} :(ngClr n).metas=n.metas:=by
 unfold ngClr
 split<;>rfl
theorem zql {n:Ng} :(ngClr n).buf.length≤n.buf.length:=by
 unfold ngClr
 split
 ·exact Nat.zero_le _
 ·exact Nat.le_refl _
theorem zne {x:Xp} (hx:x.names.length≤2):∀ (k:Nat) (n:Ng) (out:Txt),MsOk n.metas→MsOk (zI x k n out).1.metas∧(zI x k n out).1.buf.length≤n.buf.length
 |0,n,out,h=>by
  rw [zI]
  exact ⟨by rw [zqk];exact h,zql⟩
 | k+1,n,out,h=>by
  rw [zI]
  split
  ·rename_i hp
   split
   ·have h1:=zne hx k (ngStep n x).1 (out++(ngStep n x).2.1) (zuI hx h)
    have h2:=zuJ (x:=x) hp
    exact ⟨h1.1,U⟩
   ·exact ⟨h,Nat.le_refl _⟩
  ·exact ⟨by rw [zqk];exact h,zql⟩
theorem ze7 {n:Ng} {x:Xp} (hx:x.names.length≤2) (h:MsOk n.metas) (s:Txt):MsOk (zM n x s).1.metas∧(zM n x s).1.buf.length≤n.buf.length+s.length:=by
 unfold zM
 split
 ·exact ⟨h,Nat.le_add_right _ _⟩
 ·have:=zne hx (n.buf.length+s.length+2) { n with buf:=n.buf++s } [] h
  rw [List.length_append] at this
  exact this
theorem zev {n:Ng} {x:Xp} (h:n.phase=2) (s:Txt):zM n x s=({ n with buf:=n.buf++s },[]):=by
 rw [zM,if_neg U,zbY au,ngClr,if_neg au]
structure CnOk (L:Nat) (x:Img) (c:Cn):Prop where
 phase:c.n.phase=0∨c.n.phase=1∨c.n.phase=2∨c.n.phase=3
 buf:c.n.buf.length≤L
 ms:MsOk c.n.metas
 tasks:c.tasks.length≤8
 tsk:∀t∈c.tasks,t.done=false∧Tiv t.q t∧RqF x t.q c.n.metas
 data:c.tasks≠ []→c.n.phase=2
structure XOk (x:Img):Prop where
 img:ImgF x
 fit:ifit x=true
 maps:x.maps.length≤2
 g0:1≤x.geom.guest
 g1:x.geom.guest≤64
structure SvOk (L:Nat) (v:Srv):Prop where
 x:XOk v.x
 len:v.conns.length≤4
 conn:∀c∈v.conns,CnOk L v.x c
theorem XOk.of {x:Img} (hx:ImgOk x) (h:cgood x=true):XOk x:=by
 have hF:=zxR hx h
 unfold cgood at h
 simp only [Bool.and_eq_true,decide_eq_true_eq] at h
 obtain ⟨⟨h2,h3⟩,h4⟩:=h
 have h5:=h4
 unfold ifit at h5
 simp only [Bool.and_eq_true] at h5
 have h6:=h5.1.1.1.1.1
 rw [geo_iff] at h6
 exact ⟨hF,h4,U,U,U⟩
theorem XOk.step {x y:Img} (h:XOk x) (hy:ImgF y) (hi:IF x y):XOk y:=
 ⟨hy,hi.fit hy h.fit,by rw [hi.len];exact h.maps,by rw [hi.geom];exact h.g0,by rw [hi.geom];exact h.g1⟩
theorem CnOk.img {L:Nat} {x y:Img} {c:Cn} (h:CnOk L x c) (hy:ImgF y) (hi:IF x y):CnOk L y c:=
 ⟨h.phase,h.buf,h.ms,h.tasks,fun t ht=>⟨(h.tsk t ht).1,(h.tsk t ht).2.1,(h.tsk t ht).2.2.step hy hi⟩,h.data⟩
theorem CnOk.more {L M:Nat} {x:Img} {c:Cn} (h:CnOk L x c) (hl:L≤M):CnOk M x c:=⟨h.phase,Nat.le_trans h.buf hl,h.ms,h.tasks,h.tsk,h.data⟩
theorem zlv {s:Txt} (hs:s.length≤9223372036854775807):RqOk (reqRd s).1:=by
 have h0:RqOk rq0:=⟨ae,ae,ae,ae,ae,ae,ae⟩
 have h1:∀d:Txt,d.length≤9223372036854775807→RqOk (reqQ s d):=fun d hd=>by
  have a:=za1 s 8 8
  have b:=za1 s 16 8
  have c:=za1 s 24 4
  exact ⟨aO,aO,aO,aO,aO,aO,hd⟩
 unfold reqRd
 split
 ·exact h0
 split
 ·exact h0
 split
 ·exact h1 [] (Nat.zero_le _)
 split
 ·exact h0
 split
 ·exact h0
 ·exact h1 _ (by simp only [List.length_take,List.length_drop];omega)
theorem zrS {s:Txt} (h:(reqRd s).2.2=0) (hk:(reqRd s).1.kind=1):((reqRd s).1.data.length:Int)=(reqRd s).1.len:=by
 unfold reqRd at*
 split at h
 ·cases h
 rename_i h1
 split at h
 ·cases h
 rename_i h2
 rw [if_neg h1,if_neg h2] at hk ⊢
 split at h
 ·rename_i h3
  rw [if_pos h3] at hk
  simp only [reqQ] at hk
  omega
 rename_i h3
 rw [if_neg h3] at hk ⊢
 split at h
 ·cases h
 rename_i h4
 split at h
 ·cases h
 rename_i h5
 rw [if_neg h4,if_neg h5]
 simp only [reqQ,List.length_take,List.length_drop]
 omega
theorem znf {q:Rq} {size:Int} {ms:List Int} :zau q size true ms=zjT q size ms:=by
 unfold zau zjT
 simp only [Bool.true_eq_false,false_or]
theorem zlw {q:Rq} {size:Int} {ms:List Int} (h:zau q size false ms=0):q.kind≠7∧zjT { q with flags:=0 } size [0]=0:=by
 unfold zau at h
 split at h
 ·cases h
 rename_i h1
 split at h
 ·cases h
 rename_i h2
 have hk:¬zb2 q.kind true<0:=by
  unfold zb2 at h1 ⊢
  split at h1
  ·rename_i e;rw [if_pos e];decide
  rename_i e;rw [if_neg e]
  exact h1
 have hb:cbad 0 (zb2 q.kind true)=false:=by
  unfold cbad
  simp only [cbadL,cbad1]
  rfl
 by_cases h7:q.kind=7
 ·rw [h7] at h
  simp only [show ¬(7:Int)=2 by decide,show ¬(7:Int)=3 by decide,show ¬(7:Int)=1 by decide,if_false,true_and,true_or,if_true] at h
  split at h
  ·cases h
  split at h
  ·cases h
  split at h<;>cases h
 refine ⟨h7,?_⟩
 unfold zjT
 simp only [if_neg hk,hb,Bool.false_eq_true,if_false,h7,false_and] at h ⊢
 exact h
theorem RqF.of {x:Img} {q:Rq} {ch:Bool} {ms:List Int} (hx:XOk x) (hq:RqOk q) (hm:MsOk ms) (hc:zau q (128*x.geom.guest) ch ms=0) (hk:q.kind≠2) (hd:q.kind=1→(q.data.length:Int)=q.len):RqF x q ms:=by
 have f0:=hq.f0
 have l0:=hq.l0
 have h:(q.kind=3∧q.frm=0∧q.len=0)∨((q.kind=0∨q.kind=1∨q.kind=4∨q.kind=6∨q.kind=7)∧q.len≠0∧q.len≤1024∧q.frm≤128*x.geom.guest∧q.len≤128*x.geom.guest - q.frm∧(q.kind=7→ms≠ [])):=by
  cases ch with
  |true=>exact ziA (by rw [← znf];exact hc) hk
  |false=>
   obtain ⟨h7,hc⟩:=zlw hc
   rcases ziA hc hk with h|⟨h1,h2,h3,h4,h5,h6⟩
   ·exact .inl h
   ·exact .inr ⟨h1,h2,h3,h4,h5,fun h=>absurd h h7⟩
 refine ⟨hq,hx.img,hx.fit,hx.maps,hx.g0,hx.g1,?_,?_,?_,hd,fun hk=>?_,hm.1,hm.2,fun hk=>?_⟩
 ·rcases h with h|⟨h,_⟩<;>omega
 ·rcases h with h|⟨h,_⟩<;>omega
 ·have:=hx.g0
  rcases h with h|⟨h,_⟩<;>omega
 ·rcases h with h|⟨h,_⟩<;>omega
 ·rcases h with h|⟨_,_,_,_,_,h⟩
  ·omega
  ·exact h hk
theorem zgC {L:Nat} {x:Img} {c:Cn} (h:CnOk L x c):CnOk L x (zcp c):=
 ⟨h.phase,Nat.zero_le _,h.ms,Nat.zero_le _,(fun t ht=>by cases ht),fun h=>absurd rfl h⟩
theorem zqm {L:Nat} {x:Img} {c:Cn} (hx:XOk x) (h:CnOk L x c) (hL:L≤9223372036854775807) (h2:c.n.phase=2) (h8:c.tasks.length<8) (he:(reqRd c.n.buf).2.2=0) (hd:¬((reqRd c.n.buf).1.kind=2∧zau (reqRd c.n.buf).1 (128*x.geom.guest) c.n.chunks c.n.metas=0)):CnOk L x (cnOne (128*x.geom.guest) c):=by
 have hl:=zd9 he
 have hb:=h.buf
 unfold cnOne
 split
 ·exact ⟨h.phase,au,h.ms,h.tasks,h.tsk,h.data⟩
 ·rename_i hc
  have hc:zau (reqRd c.n.buf).1 (128*x.geom.guest) c.n.chunks c.n.metas=0:=Classical.not_not.1 hc
  refine ⟨h.phase,au,h.ms,af,fun t ht=>?_,fun _=>h2⟩
  rcases List.mem_append.1 ht with ht|ht
  ·exact h.tsk t ht
  ·rw [List.mem_singleton] at ht
   subst ht
   exact ⟨rfl,Tiv.new _,RqF.of hx (zlv U) h.ms hc (fun e=>hd ⟨e,hc⟩) (zrS he)⟩
theorem zgD {L:Nat} {x:Img} (hx:XOk x) (hL:L≤9223372036854775807):∀ (k:Nat) {c:Cn},CnOk L x c→CnOk L x (zaV (128*x.geom.guest) k c)
 |0,c,h=>h
 | k+1,c,h=>by
  by_cases h1:c.n.phase=2∧c.gone=false∧c.tasks.length<8
  ·rw [zcK h1]
   split
   ·exact h
   split
   ·exact zgC h
   ·rename_i h2
    exact zgD hx hL k (zqm hx h hL h1.1 h1.2.2 (Classical.not_not.1 (fun e=>h2 (.inl e))) (fun e=>h2 (.inr e)))
  ·rw [zbb h1]
   exact h
theorem zuK {L:Nat} {x:Img} (hx:XOk x) {c:Cn} (h:CnOk L x c) (s:Txt) (hL:L+s.length≤9223372036854775807):CnOk (L+s.length) x (zdQ x c s):=by
 have hn:(xpOf x).names.length≤2:=ez
 have hm:=ze7 hn h.ms s
 have hb:=h.buf
 have h1:CnOk (L+s.length) x { c with n:=(zM c.n (xpOf x) s).1,out:=c.out++(zM c.n (xpOf x) s).2 } :=by
  refine ⟨ze6 h.phase s,au,hm.1,h.tasks,fun t ht=>?_,fun hne=>?_⟩
  ·have h2:=h.data (fun e=>by simp only [e] at ht;cases ht)
   have h3:=h.tsk t ht
   rw [zev h2]
   exact h3
  ·have h2:=h.data hne
   simp only
   rw [zev h2]
   exact h2
 refine zgD hx hL _ ?_
 unfold zca
 split
 ·exact zgC h1
 ·exact h1
theorem SvOk.set {L:Nat} {v:Srv} (h:SvOk L v) {i:Nat} {c:Cn} (hc:CnOk L v.x c):SvOk L { v with conns:=v.conns.set i c } :=
 ⟨h.x,by simp only [List.length_set];exact h.len,fun o ho=>by
  rcases List.mem_or_eq_of_mem_set ho with ho|ho
  ·exact h.conn o ho
  ·rw [ho];exact hc⟩
theorem SvOk.more {L M:Nat} {v:Srv} (h:SvOk L v) (hl:L≤M):SvOk M v:=⟨h.x,h.len,fun c hc=>(h.conn c hc).more hl⟩
theorem zdj {v:Srv} {c:Int} {o:Cn} (h:(if c<0 then none else v.conns[c.toNat]?)=some o):0≤c∧v.conns[c.toNat]?=some o∧o∈v.conns:=by
 split at h
 ·cases h
 ·exact ⟨U,h,List.mem_of_getElem? h⟩
theorem zng {L:Nat} {v:Srv} (h:SvOk L v) (c:Int) (s:Txt) (hL:L+s.length≤9223372036854775807):SvOk (L+s.length) (zbl v c s):=by
 unfold zbl
 split
 ·exact h.more (Nat.le_add_right _ _)
 ·rename_i o ho
  obtain ⟨h1,h2,h3⟩:=zdj ho
  split
  ·exact h.more (Nat.le_add_right _ _)
  ·exact (h.more (Nat.le_add_right _ _)).set (zuK h.x (h.conn o h3) s hL)
theorem ze8 {α:Type} {l:List α} {i:Nat} {a:α} (h:a∈l.eraseIdx i):a∈l:=(List.eraseIdx_sublist l i).subset h
theorem zuL {L:Nat} {x:Img} (hx:XOk x) {c:Cn} (h:CnOk L x c) (hL:L≤9223372036854775807) {i:Nat} {t:Tsk} (ht:t.done=false→t.done=false∧Tiv t.q t∧RqF x t.q c.n.metas) (h2:c.n.phase=2):CnOk L x (zhx x c i t):=by
 unfold zhx
 split
 ·refine zgD hx hL _ ⟨h.phase,h.buf,h.ms,?_,fun u hu=>h.tsk u (ze8 hu),fun _=>h2⟩
  exact Nat.le_trans (List.length_eraseIdx_le _ _) h.tasks
 ·rename_i hd
  refine ⟨h.phase,h.buf,h.ms,by simp only [List.length_set];exact h.tasks,fun u hu=>?_,fun _=>h2⟩
  rcases List.mem_or_eq_of_mem_set hu with hu|hu
  ·exact h.tsk u hu
  ·rw [hu]
   exact ht (by simpa using hd)
theorem zuM {L:Nat} {v:Srv} (h:SvOk L v) (c i:Int) (hL:L≤9223372036854775807):SvOk L (zd5 v c i):=by
 unfold zd5
 split
 ·exact h
 rename_i o ho
 obtain ⟨h1,h2,h3⟩:=zdj ho
 split
 ·exact h
 rename_i t ht
 have hmt:t∈o.tasks:=by
  split at ht
  ·cases ht
  ·exact List.mem_of_getElem? ht
 obtain ⟨g1,g2,g3⟩:=(h.conn o h3).tsk t hmt
 obtain ⟨i1,i2⟩:=IF.step h.x.img t o.n.metas
 have hx:=h.x.step i2 i1
 have h4:∀c∈v.conns,CnOk L (tstep v.x t o.n.metas).1 c:=fun c hc=>(h.conn c hc).img i2 i1
 have hts:=g2.step v.x o.n.metas (h.conn o h3).ms.1
 have hq:(tstep v.x t o.n.metas).2.q=t.q:=hts.rq
 refine ⟨hx,by simp only [List.length_set];exact h.len,fun u hu=>?_⟩
 rcases List.mem_or_eq_of_mem_set hu with hu|hu
 ·exact h4 u hu
 ·rw [hu]
  exact zuL hx (h4 o h3) hL (fun hd=>⟨hd,by rw [hq];exact hts,by rw [hq];exact g3.step i2 i1⟩) ((h.conn o h3).data (fun e=>by rw [e] at hmt;cases hmt))
theorem zuN {L:Nat} {v:Srv} (h:SvOk L v) (c:Int):SvOk L (zbr v c).1:=by
 unfold zbr
 split
 ·exact h
 rename_i o ho
 obtain ⟨h1,h2,h3⟩:=zdj ho
 have:=h.conn o h3
 exact h.set ⟨this.phase,this.buf,this.ms,this.tasks,this.tsk,this.data⟩
theorem zuO {L:Nat} {v:Srv} (h:SvOk L v) (d:Deed) (hL:L+d.text.length≤9223372036854775807):SvOk (L+d.text.length) (svDo v d).1:=by
 unfold svDo
 split
 ·exact zng h _ _ hL
 split
 ·exact (zuM h _ _ U).more (Nat.le_add_right _ _)
 ·exact (zuN h _).more (Nat.le_add_right _ _)
def dlen (l:List Deed):Nat:=(l.map fun d=>d.text.length).sum
theorem zy1 {x:Img} :CnOk 0 x cn0:=⟨.inl rfl,Nat.zero_le _,MsOk.nil,Nat.zero_le _,(fun t ht=>by cases ht),fun h=>absurd rfl h⟩
theorem zlx {x:Img} (hx:XOk x) (n:Int) (h:(svNew x n).2=0):SvOk 0 (svNew x n).1:=by
 unfold svNew at*
 split at h
 ·cases h
 ·rename_i hn
  rw [if_neg hn]
  refine ⟨hx,by simp only [List.length_replicate];omega,fun c hc=>?_⟩
  rw [(List.mem_replicate.1 hc).2]
  exact zy1
open Go Go.Proofs
theorem zf1 {size:Int} :∀ (k:Nat) {c:Cn},c.gone=false→(zaV size k c).gone=true→(zaV size k c).tasks= []
 |0,c,h,h1=>by rw [zaV,h] at h1;cases h1
 | k +1,c,h,h1=>by
  by_cases hm:zcX c
  ·rw [zfZ hm] at h1 ⊢
   have key:(cnNx size c).gone=true→(cnNx size c).tasks= []:=fun e=>by
    unfold cnNx at e ⊢
    split
    ·rename_i g;rw [if_pos g,h] at e;cases e
    ·rename_i g
     rw [if_neg g] at e
     split
     ·rfl
     ·rename_i g2;rw [if_neg g2,zea,h] at e;cases e
   split
   ·rename_i g
    rw [if_pos g] at h1
    cases hg:(cnNx size c).gone with
    |true=>rw [zbz hg];exact key hg
    |false=>exact zf1 k hg h1
   ·rename_i g
    rw [if_neg g] at h1
    exact key h1
  ·rw [zbb hm,h] at h1;cases h1
theorem zo5 {L:Nat} {x:Img} {c:Cn} (hx:XOk x) (h:CnOk L x c) (hL:L≤9223372036854775807) (hm:zcX c):CnOk L x (cnNx (128*x.geom.guest) c):=by
 unfold cnNx
 split
 ·exact h
 split
 ·exact zgC h
 ·rename_i g
  exact zqm hx h hL hm.1 hm.2.2 (Classical.not_not.1 (fun e=>g (.inl e))) (fun e=>g (.inr e))
theorem ziQ (e c:Int) (d:Txt):(zb7 e c d).1.length≤5000:=by
 unfold zb7
 split
 ·exact Nat.zero_le _
 ·rename_i h
  simp only [List.length_append,zu,zpR,List.length_cons,List.length_nil]
  omega
theorem zfv (b:Bool) (k c:Int) (d:Txt):(za2 b k c d).1.length≤5000:=by
 unfold za2
 split
 ·exact Nat.zero_le _
 split
 ·exact Nat.zero_le _
 ·rename_i h
  simp only [List.length_append,zu,zer,List.length_cons,List.length_nil]
  omega
theorem zew (q:Rq) (e:Int) (ch:Bool):(zb8 q e ch).length≤5000:=by
 unfold zb8
 split
 ·exact Nat.zero_le _
 split
 ·exact zfv _ _ _ _
 ·exact ziQ _ _ _
theorem zj4 (q:Rq):∀ (l:List Spn) (s:Txt),(ziz q l s).length≤s.length+5000*l.length
 | [],s=>Nat.le_refl _
 |p::r,s=>by
  have h1:=zj4 q r (s++(za2 r.isEmpty 5 q.cookie (zdV p.ctx p.list).1).1)
  have h2:=zfv r.isEmpty 5 q.cookie (zdV p.ctx p.list).1
  rw [List.length_append] at h1
  rw [ziz,List.length_cons]
  omega
theorem zha (t:Tsk) (ch:Bool):(zeZ t ch).length≤5000*(t.spans.length+1):=by
 have a:=zew t.q t.err ch
 have b:=ziQ 0 t.q.cookie t.data
 have c:=zfv true 1 t.q.cookie (rdata t.q.frm t.data)
 have d:=zj4 t.q t.spans []
 have e:=zfv true 0 t.q.cookie []
 rw [List.length_nil] at d
 unfold zeZ
 repeat' split
 all_goals first|omega|exact Nat.zero_le _
def OutOk (M:Nat) (c:Cn):Prop:=c.out.length+10000*c.n.buf.length≤M
theorem zhV {M:Nat} {size:Int} {c:Cn} (h:OutOk M c):OutOk M (cnNx size c):=by
 unfold OutOk at*
 unfold cnNx
 split
 ·exact h
 split
 ·simp only [zcp,List.length_nil];omega
 ·rename_i g
  have h0:=zd9 (Classical.not_not.1 (fun e=>g (.inl e)))
  have h1:=zew (reqRd c.n.buf).1 (zau (reqRd c.n.buf).1 size c.n.chunks c.n.metas) c.n.chunks
  unfold cnOne
  split<;>simp only [List.length_append]<;>omega
theorem zhb {M:Nat} {size:Int} :∀ (k:Nat) {c:Cn},OutOk M c→OutOk M (zaV size k c)
 |0,c,h=>h
 | k+1,c,h=>by
  by_cases hm:zcX c
  ·rw [zfZ hm]
   split
   ·exact zhb k (zhV h)
   ·exact zhV h
  ·rw [zbb hm];exact h
theorem ziR {q:Rq} {s:Int} {ch:Bool} {ms:List Int} :0≤zau q s ch ms∧zau q s ch ms<4294967296:=by
 unfold zau
 repeat' split
 all_goals omega
def zfH (size:Int):Nat→Cn→Cn
 |0,c=>c
 |k+1,c=>if zcX c∧¬zqi size c then zfH size k (cnOne size c) else c
open Go Go.Proofs
def fewB (x:Img) (ds:List Deed):Bool:=decide ((ds.length:Int)≤60)&&decide (dlen ds≤20000)&&cgood x
theorem zyi {ds:List Deed} {i:Nat} {d:Deed} (h:ds.take (i+1)=ds.take i++ [d]):dlen (ds.take (i+1))=dlen (ds.take i)+d.text.length:=by
 rw [h]
 simp [dlen,List.sum_append]
theorem zyj {ds:List Deed} {i:Nat} :dlen (ds.take i)≤dlen ds:=by
 conv=>rhs;rw [← List.take_append_drop i ds]
 simp only [dlen,List.map_append,List.sum_append]
 omega
theorem zy7 (x:Img) (ds:List Deed) (hp:ImgOk x∧ds.length≤9223372036854775807∧(∀d∈ds,d.text.length≤9223372036854000000)):AC 11 [imgA x,.d (.sl 4 (ds.map deedD))] (.d (.bool (fewB x ds))):=by
 obtain ⟨h,hl,ht⟩:=hp
 obtain ⟨V,hV⟩:∃V,V=fewB x ds:=⟨_,rfl⟩
 rw [← hV]
 unfold fewB cgood at hV
 refine fbod Tryz.func11 Tryz.ntmps11 (fun base=>?_)
 refine' zc fx
 refine zk (fun q: { i:Nat // i≤ds.length } =>⟨[(1,true,.d (.sl 4 (ds.map deedD))),(2,true,.vp 0 0),(5,true,.d (.int .i64 (dlen (ds.take q.1)))),(6,true,.d (.int .i64 q.1))],[(0,.var (imgC x))],some []⟩) (fun q=>ds.length - q.1) ⟨0,Nat.zero_le _⟩ dL (fun q=>?_)
 obtain ⟨i,hi⟩:=q
 simp only at hi ⊢
 obtain ⟨S,hS⟩:∃S,S=dlen (ds.take i):=⟨_,rfl⟩
 have hSl:=zyj (ds:=ds) (i:=i)
 rw [← hS] at hSl ⊢
 rcases zy deedD ds i hi with ⟨d,hdq,hlt,hcmp,hrow,hdr,htk⟩|⟨hend,hcmp⟩
 ·by_cases h2:S≤20000
  ·have e2:decide ((S:Int)≤20000)=true:=decide_eq_true U
   simp only [deedD] at hrow
   have hwi:=zn (i:=i) U
   have hdl:=ht d (List.mem_of_getElem? hdq)
   have hnx:=zyi htk
   rw [← hS] at hnx
   have hw:IntKind.i64.wrap ((S:Int)+(d.text.length:Int))=((S+d.text.length:Nat):Int):=aE
   refine' zc (zq hcmp hrow e2)
   all_goals first|omega|skip
   exact ⟨⟨i+1,U⟩,by simp only [hnx];unfold imgC;simp only [AS.le,leT,leH,zf,AsgK,AV.le,AV.leL,AObj.le,inH,idsT,idsH,AV.ids,AV.idsL,AV.idsR,AObj.ids,lk,hget,go_sem,aeq,aeq.aeqF,simprocAttr,hwi,hw]<;>and_intros<;>rfl,af⟩
  ·have e2:decide ((S:Int)≤20000)=false:=decide_eq_false U
   have e3:decide (dlen ds≤20000)=false:=decide_eq_false U
   rw [e3] at hV
   unfold imgC
   refine' walkW (zj hcmp e2) (za zir <| zb _)
   rw [hV,Bool.and_false,Bool.false_and]
 ·subst hend
  rw [List.take_length] at hS
  have e2:decide ((S:Int)≤20000)=decide (dlen ds≤20000):=by rw [hS];exact decide_eq_decide.2 U
  unfold imgC
  refine' walkW (zj hcmp e2) (za zir <| zb _)
  rw [hV,← Bool.and_assoc,← Bool.and_assoc]
@[go_sem] noncomputable def zhW:Ent Tryz.prog 11:= .m2 zbk (slT 4 deedD ziC) zy7
end Go.Aw
