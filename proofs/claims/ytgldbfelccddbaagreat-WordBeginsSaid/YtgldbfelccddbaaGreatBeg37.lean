/-
 A connection's beginning, the program's: contexts asked for.
-/
import Derived.Test.YtgldbfelccddbaaGreatBeg35
set_option maxRecDepth 100000
set_option maxHeartbeats 2000000
set_option linter.unusedSimpArgs false
set_option linter.unusedVariables false
namespace Go.Aw
open Go Go.Proofs
theorem zgN {s:NW} (h:NwOk s):(ctxs s.x.names).length≤1001∧∀c∈ctxs s.x.names,c.length≤1018:=by
 refine ⟨by have:=h.names;simp [ctxs];omega,fun c hc=>?_⟩
 rcases List.mem_cons.mp hc with rfl|hc
 ·decide
 ·obtain ⟨m,hm,rfl⟩:=List.mem_map.mp hc
  have:=h.name m hm
  rw [List.length_append]
  show 18+m.length≤1018
  omega
theorem ze0 {s:NW} (hk:s.k=9∨s.k=10):ngOpt s.n s.x s.k s.d=zaF s.n s.x s.k s.d:=by
 unfold ngOpt
 rw [if_neg (by omega),if_neg (by omega),if_neg (by omega),if_neg (by omega),if_neg (by omega),if_pos hk]
def nwT (s:NW) (t:Txt):NW:= { s with p:=if t= [] then s.p else .tp 3 9,out:=s.out++t }
theorem NwOk.nwT {s:NW} (h:NwOk s) {t:Txt} (ht:s.out.length+t.length≤100000000000000):NwOk (nwT s t):=by
 refine ⟨?_,by simp only [Go.Aw.nwT,List.length_append];exact ht,h.k0,h.k1,h.d,h.z0,h.z1,h.names,h.name⟩
 simp only [Go.Aw.nwT]
 split
 ·exact h.p
 ·exact .inr rfl
theorem zm3 (s:NW):nwT s []=s:=by simp [nwT]
theorem zm4 (s:NW) (t:Txt) (k:Int) (d:Txt) (h:t++sayS s.k k d≠ []):nwSay (nwT s t) k d=nwT s (t++sayS s.k k d):=by
 simp only [nwSay,nwW,nwT,if_neg h,List.append_assoc]
theorem nw_in {s:NW} (h:NwOk s):inH (nwH s) (s.p.ids++ [5]):=by
 rcases h.p with e|e<;>simp [inH,AV.ids,e,hget]
theorem zkW (s:NW) (h:NwOk s) (ho:s.out.length≤10000000000000) (hp:s.n.phase=1) (hk:s.k=9):ACall Tryz.prog 243 6 [.tp 3 0] (nwH s) (fun r h'=>r= .tup []∧h'=nwH (nwOpt s)):=by
 have hc0:ngClr s.n=s.n:=if_neg (by omega)
 have hd:=h.d
 obtain ⟨M,hM⟩:∃M,M=zaY s.d:=⟨_,rfl⟩
 obtain ⟨V,hV⟩:∃V,V=nwOpt s:=⟨_,rfl⟩
 have eo:ngOpt s.n s.x s.k s.d=zaF s.n s.x s.k s.d:=ze0 (.inl hk)
 have heo:∀ {m:Ng} {t:Txt},ngOpt s.n s.x s.k s.d=(m,t)→nwOpt s= { s with n:=ngClr m,p:= .tp 3 9,out:=s.out++t } :=zax (by omega)
 have hk9:(s.k==10)=false:=by rw [hk];rfl
 have hk10:¬s.k=10:=by omega
 have hn:s.n= { s.n with metas:=s.n.metas } :=rfl
 unfold zaF at eo
 rw [← hM] at eo
 simp only [if_neg hk10] at eo
 rw [← hV]
 have hcx:=zgN h
 have hnl:=h.names
 have hnn:∀t∈s.x.names,t.length≤1000000:=fun t ht=>Nat.le_trans (h.name t ht) (by decide)
 refine bod Tryz.func243 Tryz.ntmps243 (fun base=>?_)
 refine' walkW (zu hM.symm hk9) (zb zah <| zb zS <| zb zR <| za _)
 ·rw [if_pos (by simpa using hc)] at eo
  refine (zG (zaI s 2147483651 [] h (by decide) (by decide))).mono ?_
  rintro r h' ⟨rfl,rfl⟩
  refine' zc fx
  rw [hV,heo eo,hc0]
  rfl
 ·rename_i hcA
  rw [if_neg (by simpa using hcA),if_pos (by have:=of_decide_eq_true hc;omega)] at eo
  refine (zG (zaI s 2147483657 [] h (by decide) (by decide))).mono ?_
  rintro r h' ⟨rfl,rfl⟩
  refine' zc fx
  rw [hV,heo eo,hc0]
  rfl
 rename_i hK hcB
 rw [if_neg (by simpa using hcB),if_neg (by have:=of_decide_eq_false hc;omega)] at eo
 have hl8:M.2.1.length≤8:=by have:=of_decide_eq_false hc;omega
 refine (zG (zdM s M.1)).mono ?_
 rintro r h' ⟨rfl,rfl⟩
 cases h2:oursS M.1 with
 |false=>
  rw [if_pos h2] at eo
  simp only [go_sem,aeq,aeq.aeqF,simprocAttr,h2]
  refine' zc fx
  refine (zG (zaI s 2147483654 [] h (by decide) (by decide))).mono ?_
  rintro r h' ⟨rfl,rfl⟩
  refine' zc fx
  rw [hV,heo eo,hc0]
  rfl
 | true=>
  rw [if_neg (by rw [h2];decide)] at eo
  simp only [go_sem,aeq,aeq.aeqF,simprocAttr,h2]
  obtain ⟨C,hC⟩:∃C,C=ctxs s.x.names:=⟨_,rfl⟩
  have hct:∀c∈C,Lib.indexByte c 58=4∧(c.take 5=baseC∨c.take 5=qemuC):=fun c hc=>zj2 (hC ▸ hc)
  rw [← hC] at hcx eo
  refine' walkW hC.symm (zb zah <| zb zS <| zb zR <| za _)
  refine zt (fun q: { q:Nat×Txt×List Int // q.1≤C.length∧q.2.1.length≤4116*q.1∧(q.1=0→q.2.1= [])∧zW s.k M.2.1 0 C [] []=zW s.k M.2.1 q.1 (C.drop q.1) q.2.1 q.2.2 } =>⟨[(0,true,.tp 3 0),(2,true,.d (.bool false)),(4,true,.d (.sl 1 (M.2.1.map strD))),(59,true,.d (.sl 1 (C.map strD))),(60,true,.d (.int .i64 C.length)),(61,true,.d (.int .i64 q.1.1))],nwH (nwT s q.1.2.1),some []⟩) (fun q=>C.length - q.1.1) ⟨(0,[],[]),Nat.zero_le _,Nat.zero_le _,fun _=>rfl,rfl⟩ (by simp only [zm3];simp only [AS.le,leT,leH,zh,AsgK,AV.le,AV.leL,AObj.le,inH,idsT,idsH,AV.ids,AV.idsL,AV.idsR,AObj.ids,lk,hget,go_sem,aeq,aeq.aeqF,simprocAttr]<;>and_intros<;>first|rfl|exact AV.le_refl _|exact nw_in h) (fun q=>?_)
  obtain ⟨⟨i,t,ids⟩,hi,ht,ht0,hg⟩:=q
  simp only at hi ht ht0 hg ⊢
  have hok:NwOk (nwT s t):=h.nwT (by omega)
  rcases zaw strD C i hi with ⟨m,hq,hlt,hcmp,hrow,hdr,htk⟩|⟨hend,hcmp⟩
  ·simp only [strD] at hrow
   have hmm:=List.mem_of_getElem? hq
   have hmc:=hcx.2 m hmm
   have hwi:=zp (i:=i) (by omega)
   rw [hdr,zW] at hg
   refine' walkW (zu hcmp hrow) (zb zah <| zb zS <| zb zR <| za _)
   refine (zG (zkV (nwT s t) m M.2.1 (by omega) (by omega) (hct m hmm).1 (hct m hmm).2 (.inl hk))).mono ?_
   rintro r h' ⟨rfl,rfl⟩
   have hak:zcb m M.2.1 ((nwT s t).k !=10)=zcb m M.2.1 (s.k !=10):=rfl
   rw [hak]
   cases hb:zcb m M.2.1 (s.k !=10) with
   |true=>
    rw [if_pos hb] at hg
    have hwu:IntKind.u64.wrap ((i+1:Nat):Int)=((i+1:Nat):Int):=zaR (by omega) (by omega)
    have hpl:=zcT ((i+1:Nat):Int)
    obtain ⟨X,hX⟩:∃X,X=sayS s.k 4 (putS8 ((i+1:Nat):Int) 4++m):=⟨_,rfl⟩
    have hXl:X.length≤4116:=by rw [hX];exact zaT ..
    have hXn:t++X≠ []:=by rw [hX,sayS,if_neg (by rw [List.length_append];omega)];simp [ansHd]
    have hns:nwSay (nwT s t) 4 (putS8 ((i+1:Nat):Int) 4++m)=nwT s (t++X):=by rw [hX];exact zm4 s t 4 _ (by rw [← hX];exact hXn)
    rw [← hX] at hg
    have hok2:NwOk (nwT s (t++X)):=h.nwT (by rw [List.length_append];omega)
    simp only [go_sem,aeq,aeq.aeqF,simprocAttr]
    refine' walkW (zu hwi hwu) (zb zah <| zb zS <| zb zR <| za _)
    refine (zG (zaI (nwT s t) 4 _ hok (by decide) (by decide))).mono ?_
    rintro r h' ⟨rfl,rfl⟩
    rw [hns]
    refine' zc hwi
    exact ⟨⟨(i+1,t++X,ids++ [((i+1:Nat):Int)]),by omega,by show (t++X).length≤4116*(i+1);rw [List.length_append];omega,fun e=>by simp at e,hg⟩,by simp only [AS.le,leT,leH,zh,AsgK,AV.le,AV.leL,AObj.le,inH,idsT,idsH,AV.ids,AV.idsL,AV.idsR,AObj.ids,lk,hget,go_sem,aeq,aeq.aeqF,simprocAttr,hwi]<;>and_intros<;>first|rfl|exact AV.le_refl _|exact nw_in hok2,by simp;omega⟩
   |false=>
    rw [if_neg (by rw [hb];decide)] at hg
    simp only [go_sem,aeq,aeq.aeqF,simprocAttr]
    refine' zc hwi
    exact ⟨⟨(i+1,t,ids),by omega,by show t.length≤4116*(i+1);omega,fun e=>by simp at e,hg⟩,by simp only [AS.le,leT,leH,zh,AsgK,AV.le,AV.leL,AObj.le,inH,idsT,idsH,AV.ids,AV.idsL,AV.idsR,AObj.ids,lk,hget,go_sem,aeq,aeq.aeqF,simprocAttr,hwi]<;>and_intros<;>first|rfl|exact AV.le_refl _|exact nw_in hok,by simp;omega⟩
  ·subst hend
   rw [List.drop_length,zW] at hg
   rw [hg] at eo
   refine' zc hcmp
   have hl1:=zaT s.k 1 []
   refine (zG (zaI (nwT s t) 1 [] hok (by decide) (by decide))).mono ?_
   rintro r h' ⟨rfl,rfl⟩
   refine' zc fx
   rw [hV,heo eo,hc0]
   simp [nwSay,nwW,nwT]
end Go.Aw
