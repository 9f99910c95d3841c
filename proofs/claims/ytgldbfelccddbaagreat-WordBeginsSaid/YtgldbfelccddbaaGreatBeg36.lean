/-
 Parts of the proof: lemmas.
-/
import Derived.Test.YtgldbfelccddbaaGreatBeg34
import Derived.Test.YtgldbfelccddbaaGreatBeg28
import Derived.Test.YtgldbfelccddbaaGreatBeg25
set_option maxRecDepth 100000
set_option maxHeartbeats 2000000
set_option linter.unusedSimpArgs false
set_option linter.unusedVariables false
namespace Go.Aw
open Go
def stRd (s:Txt):Int×List Ext×Int:=
 if s.length<12∨4004<s.length∨(s.length - 4) % 8≠0 then (0,[],14)
 else if (extR ((s.length - 4) / 8) (s.drop 4)).any (fun e=>e.len==0)=true then (0,[],25)
 else (numAt s 0 4,extR ((s.length - 4) / 8) (s.drop 4),0)
def lenS (l:List Ext):Int:=(l.map (·.len)).sum
def zoV (j:Jdg) (l:List Ext):Bool:=if ibits .and .i64 j.q.flags 8≠0 then decide (l.length=1)&&decide (lenS l≤j.q.len) else lenS l==j.q.len
def jStat (j:Jdg) (c:Chk) (k:Nat):Bool×Bool:=
 if j.n.metas.length≤k then (false,false)
 else ((stRd c.data).2.2==0&&(stRd c.data).1==j.n.metas.getD k 0&&zoV j (stRd c.data).2.1&&c.done==decide (k+1=j.n.metas.length)&&c.kind==5,decide (k+1=j.n.metas.length))
def jErrC (j:Jdg) (c:Chk):Bool:=(takeS c.data 4).2.2==0&&c.done&&c.data==rfail (IntKind.u32.wrap (takeS c.data 4).1)&&zeP j (IntKind.u32.wrap (takeS c.data 4).1)
def zbY (j:Jdg) (c:Chk) (k:Nat):Bool×Bool:=
 if c.cookie≠j.q.cookie then (false,false)
 else if c.kind=32769∧k=0 then (jErrC j c,true)
 else if j.err≠0 then (false,false)
 else if j.q.kind=0 then (ziG j c,true)
 else if j.q.kind=7 then jStat j c k
 else (c.done&&c.kind==0&&c.data== [],true)
def zbq (x:Xp) (n:Ng):RF:=fun q s=>
 if n.chunks=false then zV ⟨q,n,zbu q x.size n.chunks n.metas⟩ s
 else wpcs (zbY ⟨q,n,zbu q x.size n.chunks n.metas⟩) n.metas.length (n.metas.length+2) 0 s
theorem zmJ (x:Xp) (n:Ng):RfOk (zbq x n):=by
 constructor
 ·intro q p t h
  unfold zbq at h ⊢
  split at h
  ·rename_i h1
   rw [if_pos h1,if_pos h1]
   exact ziQ h
  ·rename_i h1
   rw [if_neg h1,if_neg h1]
   exact zjL _ _ _ _ _ h
 ·intro q p t h
  unfold zbq at h ⊢
  split at h
  ·rename_i h1
   rw [if_pos h1]
   exact ziR h
  ·rename_i h1
   rw [if_neg h1]
   exact zjM _ _ _ _ _ h
 ·intro q p h
  unfold zbq at h
  split at h
  ·exact zkN h
  ·have:=zpK _ _ q.cookie (fun c hc=>by
    unfold zbY at hc
    split at hc
    ·cases hc
    ·rename_i h1
     exact Decidable.of_not_not h1) _ _ h
   exact ⟨by omega,this.2⟩
def allL:List (Rq×Txt×Int)→Txt→List Rq→List Rq×Txt×Int
 | [],s,l=>(l,s,0)
 |r::L,s,l=>if r.2.2≠0 then (l,s,if r.2.2=22 then 0 else r.2.2) else allL L r.2.1 (l++ [r.1])
def rqAll (s:Txt):List Rq×Txt×Int:=allL (rqR (s.length+1) s) s []
theorem ziS:∀ (n:Nat) (s:Txt),28*(rqR n s).length≤s.length+28
 |0,s=>by simp [rqR]
 | n+1,s=>by
  rw [rqR]
  split
  ·simp
  rw [List.length_cons]
  split
  ·simp only [List.length_nil];omega
  ·rename_i h
   have h1:=zeT (Decidable.of_not_not h)
   have h2:=ziS n (reqRd s).2.1
   omega
theorem zjQ:∀ (L:List (Rq×Txt×Int)) (s:Txt) (l:List Rq),(allL L s l).1.length≤l.length+L.length
 | [],s,l=>Nat.le_refl _
 | r::L,s,l=>by
  rw [allL]
  split
  ·simp
  ·have:=zjQ L r.2.1 (l++ [r.1])
   simp only [List.length_append,List.length_cons,List.length_nil] at this ⊢
   omega
theorem zhQ (s:Txt):28*(rqAll s).1.length≤s.length+28:=by
 have h1:=zjQ (rqR (s.length+1) s) s []
 have h2:=ziS (s.length+1) s
 unfold rqAll
 simp only [List.length_nil] at h1
 omega
def cutLv (x:Xp) (n:Ng) (l:List Rq):List Rq:=if 0≤idxP (lvP x n) l 0 then l.take (idxP (lvP x n) l 0).toNat else l
def ng0:Ng:=⟨0,[],false,false,[]⟩
def wreqs (x:Xp) (sent:Txt):List Rq×Ng×Txt:=
 (if (zam ng0 x sent).1.phase≠2 then [] else cutLv x (zam ng0 x sent).1 (rqAll (zam ng0 x sent).1.buf).1,(zam ng0 x sent).1,greetS++(zam ng0 x sent).2)
theorem zhR {x:Xp} (hx:x.names.length≤2) {sent:Txt} (h:sent.length≤20000):(wreqs x sent).1.length≤1000:=by
 have h1:=(zeV (n:=ng0) hx MsOk.nil sent).2
 have h2:=zhQ (zam ng0 x sent).1.buf
 simp only [ng0,List.length_nil] at h1
 unfold wreqs
 simp only
 split
 ·simp
 ·have:(cutLv x (zam ng0 x sent).1 (rqAll (zam ng0 x sent).1.buf).1).length≤(rqAll (zam ng0 x sent).1.buf).1.length:=by
   unfold cutLv
   split
   ·rw [List.length_take];omega
   ·exact Nat.le_refl _
  simp only [ng0] at this h2 ⊢
  omega
def ckS (l:List Rq):List Int:=l.map (·.cookie)
def wacc (x:Xp) (sent said:Txt):Bool×List Rq:=
 if cmpN (sortL (ckS (wreqs x sent).1))<(wreqs x sent).1.length then (true,[])
 else if said.take (min said.length (wreqs x sent).2.2.length)≠(wreqs x sent).2.2.take (min said.length (wreqs x sent).2.2.length) then (false,[])
 else accL (zbq x (wreqs x sent).2.1) ((wreqs x sent).1.length+1) (wreqs x sent).1 (said.drop (min said.length (wreqs x sent).2.2.length))
theorem zok {x:Xp} {sent said:Txt} (hl:(wreqs x sent).1.length≤1000) (c:Nat) (h:(wacc x sent said).1=true):(wacc x sent (said.take c)).1=true:=by
 unfold wacc at h ⊢
 obtain ⟨⟨l,n,b⟩,hw⟩:∃w,w=wreqs x sent:=⟨_,rfl⟩
 rw [← hw] at h hl ⊢
 simp only at h hl ⊢
 split
 ·rfl
 rename_i hd
 rw [if_neg hd] at h
 have hnd:(ckS l).Nodup:=zkM _ (by simpa [ckS] using hl) (by simpa [ckS] using hd)
 split at h
 ·cases h
 rename_i hb
 have hb:=Decidable.of_not_not hb
 obtain ⟨k,hk⟩:∃k,k=min said.length b.length:=⟨_,rfl⟩
 obtain ⟨k',hk'⟩:∃k',k'=min (said.take c).length b.length:=⟨_,rfl⟩
 rw [← hk] at hb h
 rw [← hk']
 have hlt:=List.length_take (l:=said) (i:=c)
 have hkk:k'≤k∧k'≤c:=by omega
 have hb':(said.take c).take k'=b.take k':=by
  have:=congrArg (List.take k') hb
  rw [List.take_take,List.take_take,Nat.min_eq_left hkk.1] at this
  rw [List.take_take,Nat.min_eq_left hkk.2]
  exact this
 rw [if_neg (fun e=>e hb')]
 by_cases hs:(said.take c).length<b.length
 ·have:(said.take c).drop k'= []:=List.drop_of_length_le (by omega)
  rw [this,accL,if_pos rfl]
 ·have e1:k=k':=by omega
  have e2:said.drop k=(said.take c).drop k'++said.drop c:=by
   rw [e1]
   conv=>lhs;rw [← List.take_append_drop c said]
   rw [List.drop_append_of_le_length (by omega)]
  rw [e2] at h
  exact zjN (zmJ x n) _ l _ hnd h
open Go Go.Proofs
theorem zi3 (n:Nat) (s:Txt) (hs:s.length=8*n) (hn:n≤500):AIter Tryz.prog 344 100 [] [.vp 50 0] [(50,.var [.d (.str s)])] ((extR n s).map extI) (fun g h'=>(∀xs,g=some xs→xs=(extR n s).map extI)∧∃u,h'= [(50,.var [u])]):=by
 refine itr Tryz.func344 Tryz.ntmps344 (fun base y=>?_)
 refine' zbm fx
 refine zt (fun q: { q:Nat×Txt×List (List AV) // q.2.1.length=8*q.1∧q.1≤n∧q.2.2++(extR q.1 q.2.1).map extI=(extR n s).map extI } =>⟨[(0,true,.fn (.yield y.yl) [] []),(1,true,.vp 50 0)],[(50,.var [.d (.str q.1.2.1)])],some q.1.2.2⟩) (fun q=>q.1.1) ⟨(n,s,[]),hs,Nat.le_refl _,rfl⟩ le1 (fun q=>?_)
 obtain ⟨⟨k,z,xs⟩,hz,hk,hf⟩:=q
 simp only at hz hk hf ⊢
 cases k with
 | zero=>
  have hz0:z= []:=List.eq_nil_of_length_eq_zero (by omega)
  subst hz0
  refine' zbm fx
  ·rintro zs rfl
   rw [← hf,extR,List.map_nil,List.append_nil]
  ·exact ⟨_,rfl⟩
 | succ k=>
  have hc:(z != [])=true:=by
   rw [bne_iff_ne]
   rintro rfl
   simp at hz
  rw [extR,List.map_cons] at hf
  have hw:∀i:Nat,IntKind.i64.wrap (numAt z i 4:Int)=numAt z i 4:=fun i=>by
   have h1:=z8 z i 4
   exact zf (by omega) (by omega)
  have hw1:=hw 0
  have hw2:=hw 4
  have hpre:(xs++ [extI ⟨numAt z 0 4,numAt z 4 4⟩])<+:(extR n s).map extI:=by rw [← hf];simp
  simp only [extI] at hpre
  refine' walkX (zF hc hw1 hw2) (zb za5 <| zb zaB <| za _)
  ·exact ⟨⟨(k,z.drop 8,xs++ [extI ⟨numAt z 0 4,numAt z 4 4⟩]),by simp only [List.length_drop];omega,by simp only;omega,by rw [← hf];simp⟩,by simp only [AS.le,leT,leH,zh,AsgK,AV.le,AV.leL,AObj.le,inH,idsT,idsH,AV.ids,AV.idsL,AV.idsR,AObj.ids,lk,hget,go_sem,aeq,aeq.aeqF,simprocAttr,extI],by simp⟩
  ·exact ⟨_,rfl⟩
theorem zem:∀ (n:Nat) (s:Txt),(extR n s).length=n∧∀e∈extR n s,0≤e.len∧e.len<4294967296
 |0,s=>⟨rfl,fun e he=>by cases he⟩
 | n+1,s=>by
  have ih:=zem n (s.drop 8)
  refine ⟨by rw [extR,List.length_cons,ih.1],fun e he=>?_⟩
  rw [extR] at he
  rcases List.mem_cons.1 he with rfl|he
  ·have:=z8 s 0 4
   exact ⟨by simp only;omega,by simp only;omega⟩
  ·exact ih.2 e he
theorem zi4 (s:Txt) (hs:s.length≤9223372036854775807):AC 220 [.d (.str s)] (.tup [.d (.int .u32 (stRd s).1),.d (.sl 2 ((stRd s).2.1.map extD)),.d (.int .i64 (stRd s).2.2)]):=by
 obtain ⟨V,hV⟩:∃V,V=stRd s:=⟨_,rfl⟩
 rw [← hV]
 unfold stRd at hV
 refine fbod Tryz.func220 Tryz.ntmps220 (fun base=>?_)
 have hw:IntKind.i64.wrap ((s.length:Int) - 4)=(s.length:Int) - 4:=zf (by omega) (by omega)
 by_cases hb:s.length<12∨4004<s.length∨(s.length - 4) % 8≠0
 ·have hcc:(decide ((s.length:Int) - 4<8)||decide (4000<(s.length:Int) - 4)||((s.length:Int) - 4).tmod 8 !=0)=true:=by
   rw [Bool.or_eq_true,Bool.or_eq_true,decide_eq_true_eq,decide_eq_true_eq,bne_iff_ne]
   by_cases h12:s.length<12
   ·exact .inl (.inl (by omega))
   by_cases h40:4004<s.length
   ·exact .inl (.inr (by omega))
   ·refine .inr ?_
    rw [Int.tmod_eq_emod_of_nonneg (by omega)]
    omega
  rw [if_pos hb] at hV
  refine' zi (zu hw hcc)
  rw [hV]
  rfl
 have hcc:(decide ((s.length:Int) - 4<8)||decide (4000<(s.length:Int) - 4)||((s.length:Int) - 4).tmod 8 !=0)=false:=by
  rw [Bool.or_eq_false_iff,Bool.or_eq_false_iff,decide_eq_false_iff_not,decide_eq_false_iff_not,bne_eq_false_iff_eq]
  refine ⟨⟨by omega,by omega⟩,?_⟩
  rw [Int.tmod_eq_emod_of_nonneg (by omega)]
  omega
 rw [if_neg hb] at hV
 have hit:=zi3 ((s.length - 4) / 8) (s.drop 4) (by rw [List.length_drop];omega) (by omega)
 obtain ⟨L,hL⟩:∃L,L=extR ((s.length - 4) / 8) (s.drop 4):=⟨_,rfl⟩
 rw [← hL] at hV hit
 have hLl:L.length≤500:=by rw [hL,(zem _ _).1];omega
 have hLr:∀e∈L,0≤e.len∧e.len<4294967296:=by rw [hL];exact (zem _ _).2
 refine' zi (zu hw hcc)
 refine (ACall.own (fl':=0) (zkJ (s.drop 4)) rfl rfl (Nat.zero_le _) (by rintro r h' ⟨rfl,rfl⟩;rfl)).mono ?_
 rintro r h' ⟨h1,⟨rfl,rfl⟩,rfl⟩
 refine' zi fx
 refine zc6 3 0 2 (cs:= [.nils 2]) rfl rfl ?_
 simp only [go_sem,aeq,aeq.aeqF,simprocAttr,fresh,top]
 obtain ⟨I,hI⟩:∃I:List (List AV)→AHeap×Option (List (List AV)),I=fun xs=>([(51,.arr 2 ((L.take xs.length).map extD)),(3,.var [.osl 51 2 (L.take xs.length).length 0 (L.take xs.length).length]),(2,.var [.d (.int .i64 0)]),(1,.var [.nils 2]),(0,.var [.d (.int .u32 0)])],some []):=⟨_,rfl⟩
 obtain ⟨G,hG⟩:∃G:List (List AV)→Prop,G=fun xs=>(L.take xs.length).any (fun e=>e.len==0)=false:=⟨_,rfl⟩
 obtain ⟨J,hJ⟩:∃J:Code→AHeap→Option (List (List AV))→Prop,J=fun c h g=>c= .ret∧g=some []∧V=(0,[],25)∧∃ (k:Nat) (u v:Int),h= [(100,.var [.d (.int .i64 u),.d (.int .i64 v)]),(51,.arr 2 ((L.take k).map extD)),(3,.var [.osl 51 2 (L.take k).length 0 (L.take k).length]),(2,.var [.d (.int .i64 25)]),(1,.var [.nils 2]),(0,.var [.d (.int .u32 0)])]:=⟨_,rfl⟩
 refine aw_le ⟨[(24,true,.fn (.func 344) [] [.vp 50 0]),(0,true,.d (.str s)),(2,true,.vp 0 0),(3,true,.vp 1 0),(4,true,.vp 2 0),(6,true,.vp 3 0)],[(51,.arr 2 []),(50,.var [.d (.str (s.drop 4))]),(3,.var [.osl 51 2 0 0 0]),(2,.var [.d (.int .i64 0)]),(1,.var [.nils 2]),(0,.var [.d (.int .u32 0)])],some []⟩ le1 ?_
 refine zeJ 100 50 (by decide) G I J (hit) (by simp only [go_sem,aeq,aeq.aeqF,simprocAttr]) rfl (zat rfl) (by simp [cxOf,cxY]) (by first|rfl|(simp [inH,idsH,hsel,AV.ids,AV.idsL,AV.idsR,AObj.ids,hget];done)) (by first|rfl|(simp [AV.ids,AV.idsL];done)) (by rw [hG];first|trivial|rfl|simp) (by rw [hI];simp only [AS.le,leT,leH,zh,AsgK,AV.le,AV.leL,AObj.le,inH,idsT,idsH,AV.ids,AV.idsL,AV.idsR,AObj.ids,lk,hget,go_sem,aeq,aeq.aeqF,simprocAttr]<;>simp [AV.leL,AV.le]) (by rw [hI];simp only [AS.le,leT,leH,zh,AsgK,AV.le,AV.leL,AObj.le,inH,idsT,idsH,AV.ids,AV.idsL,AV.idsR,AObj.ids,lk,hget,go_sem,aeq,aeq.aeqF,simprocAttr]<;>simp) (by rw [hI]<;>rfl) (fun xs=>by rw [hI];rfl) ?_ (by intro x hx;obtain ⟨q,_,rfl⟩:=List.mem_map.1 hx;rfl) (by intro t ht;simp at ht;first|(rcases ht with rfl|rfl<;>simp [cxOf,cxY]<;>done)|(subst ht;simp [cxOf,cxY])) ?_ ?_ ?_
 ·rw [hJ]
  rintro c h3 g3 ⟨rfl,rfl,_,k,u,v,rfl⟩
  rfl
 ·intro xs x1 hpre hgd l' r1
  obtain ⟨ys,q,zs,rfl,rfl,hz⟩:=zeK hpre
  obtain ⟨k,hk⟩:∃k,k=ys.length:=⟨_,rfl⟩
  have hq:L[k]?=some q:=by rw [hz,hk];simp
  have hkl:k<L.length:=(List.getElem?_eq_some_iff.1 hq).1
  have htk:=zcH hq
  have hqr:=hLr q (List.mem_of_getElem? hq)
  have hyl:(ys.map extI).length=k:=by rw [List.length_map,hk]
  have hyl2:(ys.map extI++ [extI q]).length=k+1:=by rw [List.length_append,hyl];rfl
  have hkt:(L.take k).length=k:=by rw [List.length_take];omega
  rw [hG] at hgd
  simp only [hyl] at hgd
  obtain ⟨M,hM⟩:∃M,M=(L.take k).map extD:=⟨_,rfl⟩
  have hMl:M.length=k:=by rw [hM,List.length_map,hkt]
  refine aw_le ⟨[(25,true,.agg [.d (.int .i64 q.len),.d (.int .i64 q.flags)]),(0,true,.d (.str s)),(2,true,.vp 0 0),(3,true,.vp 1 0),(4,true,.vp 2 0),(6,true,.vp 3 0)],[(51,.arr 2 M),(3,.var [.osl 51 2 k 0 k]),(2,.var [.d (.int .i64 0)]),(1,.var [.nils 2]),(0,.var [.d (.int .u32 0)])],some []⟩ (by rw [hI];simp only [hyl,hkt,← hM,extI,zaX];simp only [AS.le,leT,leH,zh,AsgK,AV.le,AV.leL,AObj.le,inH,idsT,idsH,AV.ids,AV.idsL,AV.idsR,AObj.ids,lk,hget,go_sem,aeq,aeq.aeqF,simprocAttr]<;>and_intros<;>rfl) ?_
  cases hzq:(q.len==0) with
  |true=>
   refine' zi hzq
   rw [hJ]
   exact ⟨rfl,rfl,by rw [hV,if_pos];rw [hz,List.any_append,List.any_cons,hzq];simp,k,q.len,q.flags,by rw [hkt,hM]⟩
  | false=>
   have hkt1:(L.take (k+1)).length=k+1:=by rw [List.length_take];omega
   have hM1:(L.take (k+1)).map extD=M++ [[.int .i64 q.len,.int .i64 q.flags]]:=by rw [htk,List.map_append,hM];rfl
   refine' zi (zu hzq hMl)
   ·rw [hG]
    simp only [hyl2,htk,List.any_append,hgd,List.any_cons,hzq,List.any_nil,Bool.or_false]
   ·rw [hI]
    simp only [hyl2,hkt1,hM1]
    simp only [AS.le,leT,leH,zh,AsgK,AV.le,AV.leL,AObj.le,inH,idsT,idsH,AV.ids,AV.idsL,AV.idsR,AObj.ids,lk,hget,go_sem,aeq,aeq.aeqF,simprocAttr]<;>and_intros<;>rfl
   ·rw [hI]
    simp [hyl2,hkt1,inH,idsH,AObj.ids,AV.ids,AV.idsL,AV.idsR,hget]
   ·rw [hI]
 ·intro u hgd
  rw [hG] at hgd
  rw [hI]
  simp only [List.length_map,List.take_length] at hgd ⊢
  rw [hgd,if_neg Bool.false_ne_true] at hV
  have hwn:IntKind.u32.wrap (numAt s 0 4:Int)=numAt s 0 4:=zcq (by omega) (by have:=z8 s 0 4;omega)
  refine' walkR hwn (zb za5 <| zb zaB <| za _)
  rw [hV]
 ·rw [hJ]
  rintro c w h3 g3 ⟨rfl,rfl,hv,k,u,v,rfl⟩
  refine' zi fx
  rw [hv]
  rfl
@[go_sem] noncomputable def zgR:Ent Tryz.prog 220:= .m1 strT zi4
end Go.Aw
