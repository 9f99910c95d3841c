/-
 Parts of the proof: lemmas.
-/
import Derived.Test.YtgldbfelccddbaaGreatPart36
set_option maxRecDepth 100000
set_option maxHeartbeats 2000000
set_option linter.unusedSimpArgs false
set_option linter.unusedVariables false
namespace Go.Aw
open Go Go.Proofs
structure TkG (s s':SW):Prop where
 ok:SwOk s'
 x:s'.x=s.x
 k:s'.k=s.k
 pre:s'.pre=s.pre
 post:s'.post=s.post
 o:s'.o=zal (128*s.x.geom.guest) s.o
theorem zuP (s:Txt):ChkOk (reqRd s).1:=by
 have h0:ChkOk rq0:=⟨ae,ae,ae,ae,ae⟩
 have h1:∀d:Txt,ChkOk (reqQ s d):=fun d=>by
  have a:=za1 s 4 2
  have c:=za1 s 24 4
  exact ⟨aO,aO,aO,aO,aO⟩
 unfold reqRd
 repeat' split
 all_goals first|exact h0|exact h1 _
theorem zxh {s:SW} (h:SwOk s):((AV.idsL (s.pre++ .d (.int .i64 s.o.n.phase):: .d (.str s.o.n.buf):: .d (.bool s.o.n.brief):: .d (.bool s.o.n.chunks):: .d (.sl 1 (s.o.n.metas.map u32D))::s.tv:: .d (.str s.o.out):: .d (.bool s.o.gone)::s.post)).all fun i=>decide (i<60))=true:=by
 rcases h.t with ⟨e,_⟩|⟨e,_⟩<;>simp [AV.idsL,AV.ids,e,h.p,h.q,zg]
theorem zy2 {s:SW} {c:Cn} (h:SwOk s) (h1:s.o.gone=true→c=s.o) (h2:s.o.gone=false→c.gone=true→c.tasks= []) (h3:c.tasks.length≤1000):SwOk (swI s c):=by
 cases hg:s.o.gone with
 |true=>
  rw [h1 hg,zqj h]
  exact h
 | false=>
  unfold swI
  rw [hg]
  split
  ·rename_i g
   exact ⟨h.p,h.q,.inr ⟨rfl,h2 hg g,g⟩,h3⟩
  ·exact ⟨h.p,h.q,.inl ⟨rfl,rfl⟩,h3⟩
theorem zni (s:SW) {L M:Nat} (hs:SwOk s) (hx:XOk s.x) (hc:CnOk L s.x s.o) (hL:L≤9223372036854775806) (hco:OutOk M s.o) (hM:M≤9223372036854770000):ACall Tryz.prog 45 60 [.vp 21 0] (swH s) (fun r h'=>r= .tup []∧∃s',TkG s s'∧h'=swH s'):=by
 refine za6 (fun i=>decide (i<60)) ?_
 have hEx:=hx.ex
 refine bod Tryz.func45 Tryz.ntmps45 (fun base=>?_)
 refine' zgb (zN 2) fx (za ziK <| zb _)
 refine aw_le ⟨[(1,true,.vp 60 0),(2,true,.vp 61 0)],tkH0 (xpOf s.x) s,some []⟩ dB ?_
 refine' zaS fx
 refine ((zoW (xpOf s.x) s).whole (zbK rfl) U ?_).mono ?_
 ·rintro r h' ⟨_,rfl⟩ i hi
  revert hi
  simp only [hget]
  repeat' split
  all_goals simp
 rintro r h' ⟨rfl,rfl⟩
 refine' zaS fx
 obtain ⟨size,hsz⟩:∃size,size=128*s.x.geom.guest:=⟨_,rfl⟩
 obtain ⟨K,hK⟩:∃K,K=s.o.n.buf.length+1:=⟨_,rfl⟩
 obtain ⟨I,hI⟩:∃I:List (List AV)→AHeap×Option (List (List AV)),I=fun xs=>(tkH (xpOf s.x) (swI s (tkSt size K s.o xs)),some []):=⟨_,rfl⟩
 obtain ⟨J,hJ⟩:∃J:Code→AHeap→Option (List (List AV))→Prop,J=fun c h g=>c= .exit 0∧g=some []∧∃s',TkG s s'∧leH h (swH s'):=⟨_,rfl⟩
 have ht:s.tv.ids= [34]∨s.tv.ids= []:=by rcases hs.t with ⟨e,_⟩|⟨e,_⟩<;>rw [e]<;>simp [AV.ids]
 have hI0:(I []).1=tkH (xpOf s.x) s:=by rw [hI];simp only [zhU,zqj hs]
 refine aw_le ⟨[(1,true,.vp 60 0),(2,true,.vp 61 0),(13,true,.fn (.func 177) [] [.vp 80 0])],tkH (xpOf s.x) s,some []⟩ dB ?_
 refine zf4 (Kit:=fun g h'=>(∀xs,g=some xs→xs=zaN size K s.o)∧h'= []) (items:=zaN size K s.o) (fl:=100) (caps':= [.any]) (fun _=>false) I J rfl rfl (by simp [AV.leL,AV.le]) (zdp Tryz.func177 ad rfl) ?_ (zbK rfl) bM (fun i o _ h=>aB) (by intro j hj;simp [AV.idsL,AV.ids] at hj) ?_ ?_ (by rw [hI]) (fun _ _ _ _=>rfl) (fun _ _ _ _ _ _=>rfl) ?_ ?_ bM ?_ ?_ ?_
 ·intro E0 w0 ds rec pf qc h0 hpf hqc hmk y hy E w hsE _ _ hG
  have hpf':pf= #[]:=by simp only [Reps] at hpf;simpa using hpf
  subst hpf'
  simp only [Reps] at hqc
  obtain ⟨v0,r,hv0,hr0,hr⟩:=hqc
  subst hr
  have hqc':qc= #[v0]:=by
   apply Array.ext'
   simpa using hv0
  subst hqc'
  rw [zkD (fun _ _=>rfl)] at hsE hG ⊢
  exact zwI (P:=CnOk L s.x) hs.p hs.q ht U hc (fun c h1 h2 _=>by rw [hsz];exact zo5 hx h1 U h2) (fun c h=>⟨by have:=h.buf;omega,by have:=h.tasks;omega⟩) I (fun xs=>by rw [hI]) y hy h0 hmk hr0 hsE hG
 ·rw [hI0,zfj (fun _ _=>rfl)]
  simp only [AS.le,leT,leH,zf,AsgK,AV.le,AV.leL,AObj.le,inH,idsT,idsH,AV.ids,AV.idsL,AV.idsR,AObj.ids,lk,hget,go_sem,aeq,aeq.aeqF,simprocAttr,rowC,swC]<;>and_intros<;>first|rfl|exact AV.leL_refl _
 ·rw [hI0]
  exact ziP hs.p hs.q ht
 ·rintro g h' ⟨h1,rfl⟩
  exact ⟨fun i hi=>av,h1⟩
 ·intro x hx hne
  exact (zxe hx).resolve_left hne
 ·intro xs x hxt hpre l r1
  obtain ⟨c0,⟨hc0,hco0⟩,hm0,rfl,hst,hst2,m,hmf,hmt⟩:=zxf (P:=fun c=>CnOk L s.x c∧OutOk M c) (fun c h1 h2 _=>by rw [hsz];exact ⟨zo5 hx h1.1 U h2,zhV h1.2⟩) K s.o xs x ⟨hc,hco⟩ U hxt hpre
  obtain ⟨m,rfl⟩:∃m',m=m'+1:=⟨m - 1,U⟩
  rw [zfZ hm0] at hmt
  have hV:zal size s.o=zaV size K s.o:=by rw [hK];rfl
  rw [← hV] at hmt
  have hgn:=hm0.2.1
  have hch:=zuP c0.n.buf
  have hrq:=zlv (s:=c0.n.buf) (by have:=hc0.buf;omega)
  have hxpk:XpOk (xpOf s.x):=⟨by have:=hx.g0;simp only [xpOf];omega,by have:=hx.g1;simp only [xpOf];omega⟩
  have hsx:(xpOf s.x).size=size:=hsz.symm
  have hlt:=hm0.2.2
  by_cases h22:(reqRd c0.n.buf).2.2=22
  ·rw [if_neg U,cnNx,if_pos h22] at hmt
   rw [if_neg U] at hst
   have hIx:(I xs).1=tkH (xpOf s.x) { s with o:=c0,tv:= .osl 34 12 c0.tasks.length 0 c0.tasks.length,ts:=c0.tasks.map tskD } :=ee
   have hIg:(I xs).2=some []:=by rw [hI]
   have e22:((reqRd c0.n.buf).2.2==22)=true:=by rw [h22];rfl
   rw [hIx,hIg]
   refine aw_le ⟨[(14,true,rqA (reqRd c0.n.buf).1),(15,true,.d (.int .i64 (reqRd c0.n.buf).2.2)),(1,true,.vp 60 0),(2,true,.vp 61 0)],tkH (xpOf s.x) { s with o:=c0,tv:= .osl 34 12 c0.tasks.length 0 c0.tasks.length,ts:=c0.tasks.map tskD },some []⟩ cR ?_
   refine' zaS e22
   rw [hJ]
   exact ⟨rfl,rfl, { s with o:=c0,tv:= .osl 34 12 c0.tasks.length 0 c0.tasks.length,ts:=c0.tasks.map tskD },⟨⟨hs.p,hs.q,.inl ⟨rfl,rfl⟩,au⟩,rfl,rfl,rfl,rfl,dv⟩,by simp only [AS.le,leT,leH,zf,AsgK,AV.le,AV.leL,AObj.le,inH,idsT,idsH,AV.ids,AV.idsL,AV.idsR,AObj.ids,lk,hget,go_sem,aeq,aeq.aeqF,simprocAttr,rowC,swC]<;>and_intros<;>first|rfl|exact AV.leL_refl _⟩
  ·have e22:((reqRd c0.n.buf).2.2==22)=false:=by simpa using h22
   by_cases h0:(reqRd c0.n.buf).2.2=0
   ·have e0:((reqRd c0.n.buf).2.2 !=0)=false:=by rw [h0];rfl
    rw [if_pos h0] at hst hmt
    obtain ⟨k,hk⟩:∃k,k=zau (reqRd c0.n.buf).1 (xpOf s.x).size c0.n.chunks c0.n.metas:=⟨_,rfl⟩
    have hkr:=ziR (q:=(reqRd c0.n.buf).1) (s:=(xpOf s.x).size) (ch:=c0.n.chunks) (ms:=c0.n.metas)
    rw [← hk] at hkr
    have hIx:(I xs).1=tkH (xpOf s.x) { s with o:=cnBuf c0,tv:= .osl 34 12 c0.tasks.length 0 c0.tasks.length,ts:=c0.tasks.map tskD } :=by rw [hI];simp only [hst,swI];rw [if_neg (by rw [cnBuf,hgn];decide)];rfl
    have hIg:(I xs).2=some []:=by rw [hI]
    rw [hIx,hIg]
    refine aw_le ⟨[(14,true,rqA (reqRd c0.n.buf).1),(15,true,.d (.int .i64 (reqRd c0.n.buf).2.2)),(1,true,.vp 60 0),(2,true,.vp 61 0)],tkH (xpOf s.x) { s with o:=cnBuf c0,tv:= .osl 34 12 c0.tasks.length 0 c0.tasks.length,ts:=c0.tasks.map tskD },some []⟩ cR ?_
    unfold cnBuf
    by_cases hd:(reqRd c0.n.buf).1.kind=2∧k=0
    ·have e2:((reqRd c0.n.buf).1.kind==2)=true:=by rw [hd.1];rfl
     have ek:(k==0)=true:=by rw [hd.2];rfl
     rw [cnNx,if_neg h22,if_pos (.inr ⟨hd.1,by rw [← hsx,← hk];exact hd.2⟩),zbz rfl] at hmt
     refine' walkR (zaB e22 e0 e2 hk.symm ek) (za zft <| za zbP <| za zgx <| zb _)
     refine (zb4 (zlm { s with o:=cnBuf c0,tv:= .osl 34 12 c0.tasks.length 0 c0.tasks.length,ts:=c0.tasks.map tskD }) rfl ⟨rfl,rfl,rfl,trivial⟩ dZ ⟨rfl,trivial⟩ rfl).mono ?_
     rintro r h' ⟨rfl,rfl⟩
     refine' zaS fx
     rw [hJ]
     exact ⟨rfl,rfl,swLv { s with o:=cnBuf c0,tv:= .osl 34 12 c0.tasks.length 0 c0.tasks.length,ts:=c0.tasks.map tskD },⟨⟨hs.p,hs.q,.inr ⟨rfl,rfl,rfl⟩,Nat.zero_le _⟩,rfl,rfl,rfl,rfl,dv⟩,dE⟩
    ·have hn:cnNx size c0=cnOne size c0:=by
      rw [cnNx,if_neg h22,if_neg]
      rintro (h|h)
      ·exact h h0
      ·exact hd ⟨h.1,by rw [hk,hsx];exact h.2⟩
     have htr:=zew (reqRd c0.n.buf).1 k c0.n.chunks
     have hol:c0.out.length≤M:=by unfold OutOk at hco0;omega
     have hIg2:(I (xs++ [tkIt c0])).2=some []:=by rw [hI]
     by_cases hkz:k=0
     ·have e2:((reqRd c0.n.buf).1.kind==2)=false:=by simpa using fun e=>hd ⟨e,hkz⟩
      have ek:(k !=0)=false:=by rw [hkz];rfl
      have hone:cnOne size c0= { c0 with n:= { c0.n with buf:=(reqRd c0.n.buf).2.1 },tasks:=c0.tasks++ [tnew (reqRd c0.n.buf).1] } :=by rw [cnOne,if_neg (by rw [← hsx,← hk];omega)]
      have hI2:(I (xs++ [tkIt c0])).1=tkH (xpOf s.x) { s with o:= { c0 with n:= { c0.n with buf:=(reqRd c0.n.buf).2.1 },tasks:=c0.tasks++ [tnew (reqRd c0.n.buf).1] },tv:= .osl 34 12 (c0.tasks.length+1) 0 (c0.tasks.length+1),ts:=c0.tasks.map tskD++ [tskD (tnew (reqRd c0.n.buf).1)] } :=by rw [hI];simp only [hst2,hn,hone,swI,List.length_append,List.length_singleton,List.map_append,List.map_cons,List.map_nil];rw [if_neg cM]
      refine' walkR (zo e22 e0 e2 hk.symm ek (zq @List.length_map.{0,0} hI2 hIg2)) (za zft <| za zbP <| za zgx <| zb _)
      all_goals first|rfl|omega|exact AV.leL_refl _|simp [inH,AV.idsL,AV.ids,hget,hs.p,hs.q,zg]
     ·have ek:(k !=0)=true:=by simpa using hkz
      have ek0:(k==0)=false:=by simpa using hkz
      have hone:cnOne size c0= { c0 with n:= { c0.n with buf:=(reqRd c0.n.buf).2.1 },out:=c0.out++zb8 (reqRd c0.n.buf).1 k c0.n.chunks } :=by rw [cnOne,if_pos (by rw [← hsx,← hk];exact hkz),← hsx,← hk]
      have hI2:(I (xs++ [tkIt c0])).1=tkH (xpOf s.x) { s with o:= { c0 with n:= { c0.n with buf:=(reqRd c0.n.buf).2.1 },out:=c0.out++zb8 (reqRd c0.n.buf).1 k c0.n.chunks },tv:= .osl 34 12 c0.tasks.length 0 c0.tasks.length,ts:=c0.tasks.map tskD } :=by rw [hI];simp only [hst2,hn,hone,swI];rw [if_neg cM]
      refine' walkR (zo e22 e0 ek0 hk.symm ek (zj hI2 hIg2)) (za zft <| za zbP <| za zgx <| zb _)
      all_goals first|rfl|omega|exact AV.leL_refl _|simp [inH,AV.idsL,AV.ids,hget,hs.p,hs.q,zg]
   ·have e0:((reqRd c0.n.buf).2.2 !=0)=true:=by simpa using h0
    rw [if_neg h0] at hst hmt
    rw [cnNx,if_neg h22,if_pos (.inl h0)] at hmt
    have hIx:(I xs).1=tkH (xpOf s.x) { s with o:=c0,tv:= .osl 34 12 c0.tasks.length 0 c0.tasks.length,ts:=c0.tasks.map tskD } :=ee
    have hIg:(I xs).2=some []:=by rw [hI]
    rw [hIx,hIg]
    refine aw_le ⟨[(14,true,rqA (reqRd c0.n.buf).1),(15,true,.d (.int .i64 (reqRd c0.n.buf).2.2)),(1,true,.vp 60 0),(2,true,.vp 61 0)],tkH (xpOf s.x) { s with o:=c0,tv:= .osl 34 12 c0.tasks.length 0 c0.tasks.length,ts:=c0.tasks.map tskD },some []⟩ cR ?_
    refine' walkR (zj e22 e0) (za zft <| za zbP <| za zgx <| zb _)
    refine (zb4 (zlm { s with o:=c0,tv:= .osl 34 12 c0.tasks.length 0 c0.tasks.length,ts:=c0.tasks.map tskD }) rfl ⟨rfl,rfl,rfl,trivial⟩ dZ ⟨rfl,trivial⟩ rfl).mono ?_
    rintro r h' ⟨rfl,rfl⟩
    refine' zaS fx
    rw [hJ]
    exact ⟨rfl,rfl,swLv { s with o:=c0,tv:= .osl 34 12 c0.tasks.length 0 c0.tasks.length,ts:=c0.tasks.map tskD },⟨⟨hs.p,hs.q,.inr ⟨rfl,rfl,rfl⟩,Nat.zero_le _⟩,rfl,rfl,rfl,rfl,dv⟩,dE⟩
 ·rintro h1 ⟨_,rfl⟩
  have hIe:I (zaN size K s.o)=(tkH (xpOf s.x) (swI s (zal size s.o)),some []):=by rw [hI];simp only [zxd,zal,hK]
  rw [hIe]
  have hok:CnOk L s.x (zal size s.o):=by rw [hsz];exact zgD hx U _ hc
  have hw:=zy2 (c:=zal size s.o) hs (fun g=>zbz g) (fun g=>zf1 _ g) (by have:=hok.tasks;omega)
  have hfi:=zxh hw
  obtain ⟨s',hs'⟩:∃s',s'=swI s (zal size s.o):=⟨_,rfl⟩
  have hT:TkG s s':=by
   rw [hs']
   refine ⟨hw,?_,?_,?_,?_,by rw [swI_o,hsz]⟩<;>(unfold swI;repeat' split)<;>rfl
  rw [← hs'] at hfi ⊢
  simp only [go_sem,aeq,aeq.aeqF,simprocAttr,keepT,hsel,Tryz.results45]
  refine ⟨hfi,s',hT,rfl⟩
 ·rintro c h1 h3 g3 ⟨_,rfl⟩ hj
  rw [hJ] at hj
  obtain ⟨rfl,rfl,s',hT,hle⟩:=hj
  refine aw_le ⟨[],swH s',some []⟩ ⟨trivial,hle,trivial,sw_cl hT.ok,rfl⟩ ?_
  refine' zaS fx
  ·exact zxh hT.ok
  ·exact ⟨s',hT,rfl⟩
open Go Go.Proofs
theorem sw_at {f:FuncId} {args:List AV} {s:SW} {R:AHeap} {K:AV→SW→Prop} {fl:Nat} (hs:SwOk s) (hc:ACall Tryz.prog f 60 args (swH s) (fun r h'=>∃s',K r s'∧h'=swH s')) (hR:(R.all fun q=>decide (q.1<21)||(decide (34<q.1)&&decide (q.1<60)))=true) (ha:AV.idsL args= [21]) (hle:fl≤60):
  ACallAt Tryz.prog fl f args (swH s++R) (fun r h'=>∃s',K r s'∧h'=swH s'++R):=by
 have hR1:∀q∈R,q.1<60∧((decide (21≤q.1)&&decide (q.1≤34))||decide (60≤q.1))=false:=fun q hq=>by
  have:=List.all_eq_true.1 hR q hq
  simp only [Bool.or_eq_true,Bool.and_eq_true,decide_eq_true_eq] at this
  refine ⟨U,?_⟩
  simp only [Bool.or_eq_false_iff,Bool.and_eq_false_iff,decide_eq_false_iff_not]
  omega
 have e1:hsel (fun i=>(decide (21≤i)&&decide (i≤34))||decide (60≤i)) (swH s++R)=swH s:=by
  show (34,_)::(22,_)::(21,_)::hsel _ R=_
  rw [zkD fun q hq=>(hR1 q hq).2]
 have e2:hsel (fun i=> !((decide (21≤i)&&decide (i≤34))||decide (60≤i))) (swH s++R)=R:=by
  show hsel _ R=_
  exact zfj fun q hq=>by rw [(hR1 q hq).2];rfl
 have:=ACall.frame (P:=Tryz.prog) (f:=f) (args:=args) (fl:=60) (fl':=fl) (h:=swH s++R) (p:=fun i=>(decide (21≤i)&&decide (i≤34))||decide (60≤i)) (K:=fun r h'=>∃s',K r s'∧h'=swH s') (by rw [e1];exact hc) (zbK (by
  rw [List.all_append,Bool.and_eq_true]
  exact ⟨rfl,List.all_eq_true.2 fun q hq=>decide_eq_true (hR1 q hq).1⟩)) (fun i hi=>al) (fun i o ho hp j hj=>by
   have h1:hget (swH s) i=some o:=by rw [← e1,zr,if_pos hp];exact ho
   have h2:=zeb (sw_cl hs) j (ze9 h1 j hj)
   rw [← e1,zr] at h2
   split at h2
   ·assumption
   ·simp at h2) (by rw [ha];intro j hj;rw [List.mem_singleton.1 hj];rfl) hle (by
  rintro r h' ⟨s',_,rfl⟩
  refine ⟨fun i hi hp=>?_,fun i hi=>?_⟩
  ·have:(hget (swH s) i).isSome:=by rw [← e1,zr,if_pos hp];exact hi
   revert this
   simp only [hget]
   repeat' split
   all_goals simp
  ·revert hi
   simp only [hget]
   repeat' split
   all_goals first|(intro;simp;omega)|simp)
 refine this.mono ?_
 rintro r h' ⟨h1,⟨s',hK,rfl⟩,rfl⟩
 rw [e2]
 exact ⟨s',hK,rfl⟩
theorem zuU (n:Ng) (x:Xp) (s:Txt) (hp:XpF x∧0≤n.phase∧n.buf.length+s.length≤900000):AC 42 [ngA n,xpA x,.d (.str s)] (.tup [ngA (zM n x s).1,.d (.str (zM n x s).2)]):=by
 obtain ⟨h,h0,hl⟩:=hp
 exact zwv n x s h0 hl h.ok.1 h.ok.2 h.l h.n
@[go_sem] noncomputable def zo7:Ent Tryz.prog 42:= .m3 ngA_T xpA_T strT zuU
theorem zuV (v:Srv) (c:Int) (s:Txt) (hp:SvB v∧s.length≤400000):AC 14 [srvA v,.d (.int .i64 c),.d (.str s)] (srvA (zbl v c s)):=by
 obtain ⟨h,hl⟩:=hp
 obtain ⟨V,hV⟩:∃V,V=zbl v c s:=⟨_,rfl⟩
 rw [← hV]
 unfold zbl at hV
 have hcl:=h.ok.len
 by_cases hb:c<0∨(v.conns.length:Int)≤c
 ·have hn:(if c<0 then none else v.conns[c.toNat]?)=none:=by
   split
   ·rfl
   ·exact List.getElem?_eq_none U
  rw [hn] at hV
  refine fbod Tryz.func14 Tryz.ntmps14 (fun base=>?_)
  refine' zaS fx
  refine (zaJ (ziL v c hb)).mono ?_
  rintro r h' ⟨rfl,rfl⟩
  simp only [go_sem,aeq,aeq.aeqF,simprocAttr]
  refine' zaS fx
  rw [hV]
 ·obtain ⟨k,rfl⟩:∃k:Nat,c=k:=⟨c.toNat,U⟩
  obtain ⟨o,ho⟩:∃o,v.conns[k]?=some o:=⟨_,List.getElem?_eq_getElem U⟩
  have hn:(if (k:Int)<0 then none else v.conns[(k:Int).toNat]?)=some o:=bA
  rw [hn] at hV
  simp only [Int.toNat_natCast] at hV
  have hmo:=List.mem_of_getElem? ho
  have hco:=h.ok.conn o hmo
  have hbg:=zg9 v k o ho U bY
  obtain ⟨pre,hpre⟩:∃pre,pre=((v.conns.take k).map cnD).flatten.map AV.d:=⟨_,rfl⟩
  rw [← hpre] at hbg
  have hip:AV.idsL pre= []:=cH
  refine fbod Tryz.func14 Tryz.ntmps14 (fun base=>?_)
  refine' zaS fx
  refine (hbg.own rfl rfl ae dq).mono ?_
  rintro r h' ⟨h1,⟨m,rfl,rfl⟩,rfl⟩
  obtain ⟨post,hpost⟩:∃post,post=((v.conns.drop (k+1)).map cnD).flatten.map AV.d++List.replicate m .any:=⟨_,rfl⟩
  rw [← hpost]
  have hiq:AV.idsL post= []:=cG
  simp only [go_sem,aeq,aeq.aeqF,simprocAttr]
  cases hg:o.gone with
  |true=>
   rw [hg,if_pos rfl] at hV
   refine' zaS hg
   rw [hV]
  | false=>
   rw [hg,if_neg ae] at hV
   have hxp:=(XOk.xp h.ok.x)
   have hex:=h.ok.x.ex
   have hph:0≤o.n.phase:=by have:=hco.phase;omega
   have hbl:=hco.buf
   obtain ⟨F,hF⟩:∃F,F=zM o.n (xpOf v.x) s:=⟨_,rfl⟩
   have hol:=zhc (n:=o.n) (xctxs hxp).1 s
   have hoo:=h.out o hmo
   unfold OutOk at hoo
   rw [← hF] at hol
   have hn2:pre.length+1+1=pre.length+2:=rfl
   have hn3:pre.length+2+1=pre.length+3:=rfl
   have hn4:pre.length+3+1=pre.length+4:=rfl
   refine' zgb (zN 6) (zaB hg hF.symm hn2 hn3 hn4) (za ziK <| za zo7 <| zb _)
   obtain ⟨o1,ho1⟩:∃o1:Cn,o1= { o with n:=F.1,out:=o.out++F.2 } :=⟨_,rfl⟩
   obtain ⟨σ,hσ⟩:∃σ:SW,σ=⟨v.x,v.conns.length,pre,o1,post,.osl 34 12 o.tasks.length 0 o.tasks.length,o.tasks.map tskD⟩:=⟨_,rfl⟩
   refine aw_le ⟨[(6,true,.vp 1 0),(7,true,.vp 21 0),(9,true,.vp 50 0),(10,true,.d (.str F.2))],swH σ++ [(50,.var [.d (.int .i64 F.1.phase),.d (.str F.1.buf),.d (.bool F.1.brief),.d (.bool F.1.chunks),.d (.sl 1 (F.1.metas.map u32D))]),(1,.var (img0++ [.nils 8]))],some []⟩ (by rw [hσ,ho1];unfold img0;simp only [AS.le,leT,leH,zf,AsgK,AV.le,AV.leL,AObj.le,inH,idsT,idsH,AV.ids,AV.idsL,AV.idsR,AObj.ids,lk,hget,go_sem,aeq,aeq.aeqF,simprocAttr,rowC,swC,hg]<;>and_intros<;>first|rfl|exact AV.leL_refl _|simp [inH,AV.idsL,AV.ids,hget,hip,hiq,zg]) ?_
   have hso:SwOk σ:=by rw [hσ,ho1];exact ⟨hip,hiq,.inl ⟨rfl,rfl⟩,by have:=hco.tasks;simp only;omega⟩
   have hle:OutOk 4100000000000000000 o1:=by
    rw [ho1]
    unfold OutOk
    have:=(ze7 (n:=o.n) (x:=xpOf v.x) en hco.ms s).2
    rw [← hF] at this
    simp only [List.length_append]
    omega
   obtain ⟨σ2,hσ2⟩:∃σ2,σ2=if F.1.phase=3 then swLv σ else σ:=⟨_,rfl⟩
   have hso2:SwOk σ2:=by
    rw [hσ2]
    split
    ·exact ⟨hso.p,hso.q,.inr ⟨rfl,rfl,rfl⟩,Nat.zero_le _⟩
    ·exact hso
   have ho2:σ2.o=zca o1:=by
    rw [hσ2,hσ,ho1]
    unfold zca swLv
    simp only
    split<;>rfl
   refine znN ⟨[(6,true,.vp 1 0),(7,true,.vp 21 0),(10,true,.d (.str F.2))],swH σ2++ [(1,.var (img0++ [.nils 8]))],some []⟩ ?_ ?_
   ·cases hp3:(F.1.phase==3) with
    |true=>
     rw [if_pos (beqP hp3)] at hσ2
     subst hσ2
     refine' zaS hp3
     refine (zb4 (zlm σ) rfl ⟨rfl,rfl,rfl,trivial⟩ (sw_cl hso) ⟨rfl,trivial⟩ rfl).mono ?_
     rintro r h' ⟨rfl,rfl⟩
     refine' zaS fx
     all_goals first|rfl|exact AV.leL_refl _|simp [inH,AV.idsL,AV.ids,hget,hso.p,hso.q,zg,swLv]
    |false=>
     rw [if_neg (beqN hp3)] at hσ2
     subst hσ2
     refine' zaS hp3
     all_goals first|rfl|exact AV.leL_refl _|(rw [hσ];simp [inH,AV.idsL,AV.ids,hget,hip,hiq,zg])
   ·have hx2:σ2.x=v.x:=by rw [hσ2,hσ];split<;>rfl
    have hk2:σ2.k=v.conns.length:=dy
    have hp2:σ2.pre=pre:=dy
    have hq2:σ2.post=post:=dy
    have hcn:CnOk 900000 σ2.x σ2.o:=by
     rw [hx2,ho2,ho1]
     have:=zj6 h.ok.x (hco.more (show 400000≤400000 by omega)) s
     rw [← hF] at this
     exact this.more U
    have hou:OutOk 4100000000000000000 σ2.o:=by
     rw [ho2]
     unfold zca
     split
     ·unfold OutOk at*
      simp only [zcp,List.length_nil]
      omega
     ·exact hle
    refine' zaS fx
    refine (sw_at (K:=fun r s'=>r= .tup []∧TkG σ2 s') hso2 ((zni σ2 hso2 (by rw [hx2];exact h.ok.x) hcn U hou U).mono ?_) rfl rfl U).mono ?_
    ·rintro r h' ⟨h1,s',h2,h3⟩
     exact ⟨s',⟨h1,h2⟩,h3⟩
    rintro r h' ⟨s',⟨rfl,hT⟩,rfl⟩
    refine' zsM (zN 9) fx
    have hcf:s'.o=zdQ v.x o s:=by rw [hT.o,ho2,hx2,ho1,hF];rfl
    refine aw_le ⟨[(6,true,.vp 1 0),(7,true,.vp 21 0),(10,true,.d (.str F.2))],swH s'++ [(1,.var (img0++ [.nils 8]))],some []⟩ (by unfold img0;simp only [AS.le,leT,leH,zf,AsgK,AV.le,AV.leL,AObj.le,inH,idsT,idsH,AV.ids,AV.idsL,AV.idsR,AObj.ids,lk,hget,go_sem,aeq,aeq.aeqF,simprocAttr,rowC,swC]<;>and_intros<;>first|rfl|exact AV.leL_refl _|(rcases hT.ok.t with ⟨e,_⟩|⟨e,_⟩<;>simp [inH,AV.idsL,AV.ids,e,hget,hT.ok.p,hT.ok.q,zg])) ?_
    refine zlB (l:=v.conns) (k:=k) (m:=m) hT.ok U (by rw [hT.k,hk2]) (by rw [hT.pre,hp2,hpre];rfl) (by rw [hT.post,hq2,hpost];rfl) ae ae ae ?_
    unfold imgC img0
    refine' zaS fx
    rw [hV,hcf,hT.x,hx2]
@[go_sem] noncomputable def zcL:Ent Tryz.prog 14:= .m3 zfA (intT .i64) strT zuV
end Go.Aw
