/-
 A connection's beginning, the program's: contexts asked for and set.
-/
import Derived.Test.YtgldbfelccddbaaGreatBeg37
set_option maxRecDepth 100000
set_option maxHeartbeats 2000000
set_option linter.unusedSimpArgs false
set_option linter.unusedVariables false
namespace Go.Aw
open Go Go.Proofs
theorem zm5 {cx:Cx} {c:Code} {Q:Exit→AS→Prop} {s:AS} (i o k:Nat) {T:TypeId} {cs:List AV} (hi:hget s.h i=some (.tvar T cs)) (ho:cs[o]?=some (.nils k))
    (h:AW cx c Q { s with h:=(fresh cx.fl s.h,.arr k [])::hset s.h i (.tvar T (cs.set o (.osl (fresh cx.fl s.h) k 0 0 0))) }):AW cx c Q s:=fun E a w hs=>by
  have hne:fresh cx.fl s.h≠i:=fun e=>by
    have:=zai cx.fl s.h
    rw [e,hi] at this;cases this
  have cc:Chg E s.h w (E.set (fresh cx.fl s.h) none 0) ((fresh cx.fl s.h,.arr k [])::s.h) w (fresh cx.fl s.h):=
    { os:=rfl,tape:=rfl,output:=rfl,size:=Nat.le_refl _,envO:=fun j e=>by simp [Env.set,e],envC:=fun j e=>by simp [Env.set,e],M:=rfl,N:=rfl,hh:=fun j e=>by simp [hget,Ne.symm e],
      gi:=by simp [GoesOn,zai]
      blk:=fun b hb _=>rfl
      new:=fun b _ hb=>by simp [Env.set] at hb }
  have hs1:=cc.sat (t:=s.t) (g:=s.g) hs (fun o ho=>by
    simp [hget] at ho
    subst ho
    simp only [RepObj]
    exact .inl ⟨by simp [Env.set],.inl trivial⟩)
  have hi1:hget ((fresh cx.fl s.h,.arr k [])::s.h) i=some (.tvar T cs):=by simp [hget,hne,hi]
  have e1:(fresh cx.fl s.h,AObj.arr k [])::hset s.h i (.tvar T (cs.set o (.osl (fresh cx.fl s.h) k 0 0 0)))=hset ((fresh cx.fl s.h,.arr k [])::s.h) i (.tvar T (cs.set o (.osl (fresh cx.fl s.h) k 0 0 0))):=by
    simp [hset,hne]
  obtain ⟨E1,hE1⟩:∃E1,E1=E.set (fresh cx.fl s.h) none 0:=⟨_,rfl⟩
  rw [← hE1] at hs1 cc
  obtain ⟨b,c',T',fz,g1,g2,g3,g4,g5⟩:=hs1.hp.tvar hi1
  have ch:=zd7 (w:=w) hs1.hp hi1 (cs':=cs.set o (.osl (fresh cx.fl s.h) k 0 0 0)) (by simp) g1 (.cells c' T' fz)
  rw [zgw g2] at ch
  have hs2:=ch.sat (t:=s.t) (g:=s.g) hs1 (fun ob hob=>by
    rw [ze hi1] at hob
    cases hob
    simp only [RepObj]
    refine ⟨b,c',T',fz,g1,g2,?_,g4,g5⟩
    obtain ⟨v,hv,hvr⟩:=Reps.get g3 ho
    simp only [Rep] at hvr
    subst hvr
    have h3:=ch.reps g3
    have:=h3.set (i:=o) (a:= .osl (fresh cx.fl s.h) k 0 0 0) (v:= .slice none 0 0) (by
      simp only [Rep]
      refine ⟨⟨_,_,_,rfl⟩,[],?_,by simp,by simp,fun _=> .inl ⟨by rw [hE1];simp [Env.set],trivial⟩⟩
      rw [zr (by simpa using hne)]
      simp [hget])
    have e2:c'.toList.set o (.slice none 0 0)=c'.toList:=by
      obtain ⟨hlt,he⟩:=List.getElem?_eq_some_iff.1 hv
      rw [← he,List.set_getElem_self]
    rw [e2] at this
    exact this)
  rw [← e1] at hs2
  refine wpIn_mono (h _ a w hs2) (fun _ _ _ hr=>hr.trans (Evo.trans (cc.evo (.inr (zO _ _))) ?_))
  rw [e1]
  exact ch.evo (.inl (by simp [hi1]))
def nwCo (s:NW):List AV:= [.d (.int .i64 s.n.phase),.d (.str s.n.buf),.d (.bool s.n.brief),.d (.bool s.n.chunks),.osl 6 1 s.n.metas.length 0 s.n.metas.length,.d (.int .u64 s.x.size),.d (.sl 1 (s.x.names.map strD)),.d (.int .u32 s.k),.d (.str s.d),s.p,.bsl 5 s.out.length]
attribute [go_sem] nwCo
abbrev nwHo (s:NW):AHeap:= [(6,.arr 1 (s.n.metas.map u32D)),(5,.buf 5 s.out),(3,.tvar 182 (nwCo s))]
theorem zm6 (s:NW) (t:Txt) (h:NwOk s) (ht:t.length≤1000000):ACallAt Tryz.prog 7 113 [.tp 3 9,.d (.str t)] (nwHo s) (fun r h'=>r= .tup [.d (.int .i64 t.length),.d .nilif]∧h'=nwHo (nwW s t)):=by
 have hp:=h.p
 have ho:=h.out
 refine (zbn (i:=3) (j:=5) (o:=9) (T:=182) (cs:=nwCo s) (xs:=s.out) (n:=s.out.length) rfl (hp.imp (fun e=>by simp [nwCo,e]) (fun e=>by simp [nwCo,e])) rfl rfl rfl zm0 (by omega)).mono ?_
 rintro r h' ⟨rfl,rfl⟩
 refine ⟨rfl,?_⟩
 simp [nwHo,hset,nwCo,nwW]
theorem zgO (s:NW) (kind:Int) (data:Txt) (h:NwOk s) (h0:0≤kind) (h1:kind≤4294967295):ACall Tryz.prog 176 7 [.tp 3 0,.d (.int .u32 kind),.d (.str data)] (nwHo s) (fun r h'=>r= .tup []∧h'=nwHo (nwSay s kind data)):=by
 have hk0:=h.k0
 have hk1:=h.k1
 have hl:=zaT s.k kind data
 refine bod Tryz.func176 Tryz.ntmps176 (fun base=>?_)
 refine' walkW fx (zb zeY <| za _)
 refine (zm6 s _ h (by omega)).mono ?_
 rintro r h' ⟨rfl,rfl⟩
 rfl
theorem zj3 {s:NW} (h:NwOk s):inH (nwHo s) (s.p.ids++ [5]):=by
 rcases h.p with e|e<;>simp [inH,AV.ids,e,hget]
theorem nw_tr {p:AV} (h:p= .d .nilp∨p= .tp 3 9) (f:AV→AV):AV.tr (onI 6 f) p=p:=by
 rcases h with rfl|rfl<;>rfl
theorem zct {f:FuncId} {args:List AV} {s t:NW} {r0:AV} (hc:ACall Tryz.prog f 7 args (nwHo s) (fun r h'=>r=r0∧h'=nwHo t)):ACallAt Tryz.prog 6 f args (nwHo s) (fun r h'=>r=r0∧h'=nwHo t):=
 hc.whole (zat rfl) (by decide) (fun _ h' hk i hi=>by
  rw [hk.2]
  simp only [hget] at hi ⊢
  by_cases h6:6=i
  ·simp [h6]
  by_cases h5:5=i
  ·simp [h6,h5]
  by_cases h3:3=i
  ·simp [h6,h5,h3]
  simp [h6,h5,h3] at hi)
theorem zot (s:NW) (t:Txt):ACall Tryz.prog 294 7 [.tp 3 0,.d (.str t)] (nwHo s) (fun r h'=>r= .d (.bool (oursS t))∧h'=nwHo s):=by
 refine bod Tryz.func294 Tryz.ntmps294 (fun base=>?_)
 refine' zc fx
 rfl
theorem ziZ (s:NW) (c:Txt) (l:List Txt) (hl:l.length≤1000000) (hcl:c.length≤1000000) (h4:Lib.indexByte c 58=4) (h5:c.take 5=baseC∨c.take 5=qemuC) (h10:s.k=10):ACall Tryz.prog 301 7 [.tp 3 0,.d (.str c),.d (.sl 1 (l.map strD))] (nwHo s) (fun r h'=>r= .d (.bool (zcb c l (s.k !=10)))∧h'=nwHo s):=by
 rw [← zhX c l (s.k !=10) h5]
 have h5l:=zm2 h5
 have hw5:IntKind.i64.wrap 5=5:=by decide
 have hkk:(s.k !=10)=false:=by rw [h10];rfl
 have hk9:(s.k==9)=false:=by rw [h10];rfl
 rw [hkk]
 refine bod Tryz.func301 Tryz.ntmps301 (fun base=>?_)
 refine' walkW (zF h4 hw5 hk9) (zb zbZ <| zb zcA <| za _)
 all_goals rw [hc]
def nwS (s:NW) (ids:List Int):NW:= { s with n:= { s.n with metas:=ids } }
theorem NwOk.s {s:NW} (h:NwOk s) (ids:List Int):NwOk (nwS s ids):=h.n _
theorem zi0 (s:NW) (h:NwOk s) (ho:s.out.length≤10000000000000) (hp:s.n.phase=1) (hk:s.k=10):ACall Tryz.prog 243 6 [.tp 3 0] (nwH s) (fun r h'=>r= .tup []∧h'=nwH (nwOpt s)):=by
 have hc0:∀m,ngClr { s.n with metas:=m } = { s.n with metas:=m } :=fun m=>if_neg (show ¬s.n.phase=3 by omega)
 have hd:=h.d
 obtain ⟨M,hM⟩:∃M,M=zaY s.d:=⟨_,rfl⟩
 obtain ⟨V,hV⟩:∃V,V=nwOpt s:=⟨_,rfl⟩
 have eo:ngOpt s.n s.x s.k s.d=zaF s.n s.x s.k s.d:=ze0 (.inr hk)
 have heo:∀ {m:Ng} {t:Txt},ngOpt s.n s.x s.k s.d=(m,t)→nwOpt s= { s with n:=ngClr m,p:= .tp 3 9,out:=s.out++t } :=zax (by omega)
 have hk9:(s.k==10)=true:=by rw [hk];rfl
 unfold zaF at eo
 rw [← hM] at eo
 simp only [if_pos hk] at eo
 rw [← hV]
 have hcx:=zgN h
 have hnl:=h.names
 have hnn:∀t∈s.x.names,t.length≤1000000:=fun t ht=>Nat.le_trans (h.name t ht) (by decide)
 refine bod Tryz.func243 Tryz.ntmps243 (fun base=>?_)
 refine' zeH (zP 3) hk9 (zb zah <| zb zS <| zb zR <| za _)
 refine zm5 3 4 1 rfl rfl ?_
 simp only [go_sem,aeq,aeq.aeqF,simprocAttr]
 refine aw_le ⟨[(0,true,.tp 3 0),(2,true,.d (.bool true))],nwHo (nwS s []),some []⟩ (by simp only [AS.le,leT,leH,zh,AsgK,AV.le,AV.leL,AObj.le,inH,idsT,idsH,AV.ids,AV.idsL,AV.idsR,AObj.ids,lk,hget,go_sem,aeq,aeq.aeqF,simprocAttr]<;>and_intros<;>first|rfl|exact AV.le_refl _|exact zj3 (h.s [])) ?_
 have hM':zaY (nwS s []).d=M:=hM.symm
 have hch:(nwS s []).n.chunks=s.n.chunks:=rfl
 have hdl:(nwS s []).d.length≤1000000:=Nat.le_trans hd (by decide)
 refine' walkW (zF hM' hch hdl) (zb zah <| zb zS <| zb zR <| za _)
 ·rw [if_pos (by simpa using hc)] at eo
  refine (zct (zgO (nwS s []) 2147483651 [] (h.s []) (by decide) (by decide))).mono ?_
  rintro r h' ⟨rfl,rfl⟩
  refine hK _ ?_
  refine zaW 6 rfl ?_
  refine' zc fx
  rw [hV,heo eo,hc0]
  rfl
 ·rename_i hK hcA
  rw [if_neg (by simpa using hcA),if_pos (by have:=of_decide_eq_true hc;omega)] at eo
  refine (zct (zgO (nwS s []) 2147483657 [] (h.s []) (by decide) (by decide))).mono ?_
  rintro r h' ⟨rfl,rfl⟩
  refine hK _ ?_
  refine zaW 6 rfl ?_
  refine' zc fx
  rw [hV,heo eo,hc0]
  rfl
 rename_i hK hcB
 rw [if_neg (by simpa using hcB),if_neg (by have:=of_decide_eq_false hc;omega)] at eo
 have hl8:M.2.1.length≤8:=by have:=of_decide_eq_false hc;omega
 refine (zct (zot (nwS s []) M.1)).mono ?_
 rintro r h' ⟨rfl,rfl⟩
 cases h2:oursS M.1 with
 |false=>
  rw [if_pos h2] at eo
  simp only [go_sem,aeq,aeq.aeqF,simprocAttr,h2]
  refine' zc fx
  refine (zct (zgO (nwS s []) 2147483654 [] (h.s []) (by decide) (by decide))).mono ?_
  rintro r h' ⟨rfl,rfl⟩
  refine hK _ ?_
  refine zaW 6 rfl ?_
  refine' zc fx
  rw [hV,heo eo,hc0]
  rfl
 | true=>
  rw [if_neg (by rw [h2];decide)] at eo
  simp only [go_sem,aeq,aeq.aeqF,simprocAttr,h2]
  obtain ⟨C,hC⟩:∃C,C=ctxs s.x.names:=⟨_,rfl⟩
  have hct:∀c∈C,Lib.indexByte c 58=4∧(c.take 5=baseC∨c.take 5=qemuC):=fun c hc=>zj2 (hC ▸ hc)
  rw [← hC] at hcx eo
  have hC':ctxs (nwS s []).x.names=C:=hC.symm
  have hnl':(nwS s []).x.names.length≤1000000:=Nat.le_trans hnl (by decide)
  have hnn':∀t∈(nwS s []).x.names,t.length≤1000000:=hnn
  refine' walkW (zu hC' hnl') (zb zah <| zb zS <| zb zR <| za _)
  refine zt (fun q: { q:Nat×Txt×List Int // q.1≤C.length∧q.2.1.length≤4116*q.1∧q.2.2.length≤q.1∧zW s.k M.2.1 0 C [] []=zW s.k M.2.1 q.1 (C.drop q.1) q.2.1 q.2.2 } =>⟨[(0,true,.tp 3 0),(2,true,.d (.bool true)),(4,true,.d (.sl 1 (M.2.1.map strD))),(59,true,.d (.sl 1 (C.map strD))),(60,true,.d (.int .i64 C.length)),(61,true,.d (.int .i64 q.1.1))],nwHo (nwT (nwS s q.1.2.2) q.1.2.1),some []⟩) (fun q=>C.length - q.1.1) ⟨(0,[],[]),Nat.zero_le _,Nat.zero_le _,Nat.zero_le _,rfl⟩ (by simp only [zm3];simp only [AS.le,leT,leH,zh,AsgK,AV.le,AV.leL,AObj.le,inH,idsT,idsH,AV.ids,AV.idsL,AV.idsR,AObj.ids,lk,hget,go_sem,aeq,aeq.aeqF,simprocAttr]<;>and_intros<;>first|rfl|exact AV.le_refl _|exact zj3 (h.s [])) (fun q=>?_)
  obtain ⟨⟨i,t,ids⟩,hi,ht,hids,hg⟩:=q
  simp only at hi ht hids hg ⊢
  have hok:NwOk (nwT (nwS s ids) t):=(h.s ids).nwT (show s.out.length+_≤_ by omega)
  rcases zaw strD C i hi with ⟨m,hq,hlt,hcmp,hrow,hdr,htk⟩|⟨hend,hcmp⟩
  ·simp only [strD] at hrow
   have hmm:=List.mem_of_getElem? hq
   have hmc:=hcx.2 m hmm
   have hwi:=zp (i:=i) (by omega)
   rw [hdr,zW] at hg
   refine' walkW (zu hcmp hrow) (zb zah <| zb zS <| zb zR <| za _)
   refine (zct (ziZ (nwT (nwS s ids) t) m M.2.1 (by omega) (by omega) (hct m hmm).1 (hct m hmm).2 hk)).mono ?_
   rintro r h' ⟨rfl,rfl⟩
   have hak:zcb m M.2.1 ((nwT (nwS s ids) t).k !=10)=zcb m M.2.1 (s.k !=10):=rfl
   rw [hak]
   cases hb:zcb m M.2.1 (s.k !=10) with
   |true=>
    rw [if_pos hb] at hg
    have hwu:IntKind.u64.wrap ((i+1:Nat):Int)=((i+1:Nat):Int):=zaR (by omega) (by omega)
    have hw3:IntKind.u32.wrap ((i+1:Nat):Int)=((i+1:Nat):Int):=zcq (by omega) (by omega)
    have hpl:=zcT ((i+1:Nat):Int)
    obtain ⟨X,hX⟩:∃X,X=sayS s.k 4 (putS8 ((i+1:Nat):Int) 4++m):=⟨_,rfl⟩
    have hXl:X.length≤4116:=by rw [hX];exact zaT ..
    have hXn:t++X≠ []:=by rw [hX,sayS,if_neg (by rw [List.length_append];omega)];simp [ansHd]
    have hns:nwSay (nwT (nwS s ids) t) 4 (putS8 ((i+1:Nat):Int) 4++m)=nwT (nwS s ids) (t++X):=by rw [hX];exact zm4 (nwS s ids) t 4 _ (by show t++sayS s.k 4 _≠ [];rw [← hX];exact hXn)
    rw [← hX] at hg
    have hok2:NwOk (nwT (nwS s (ids++ [((i+1:Nat):Int)])) (t++X)):=(h.s _).nwT (by show s.out.length+_≤_;rw [List.length_append];omega)
    have hml:(nwT (nwS s ids) (t++X)).n.metas=ids:=rfl
    have hmn:(nwT (nwS s (ids++ [((i+1:Nat):Int)])) (t++X)).n.metas=ids++ [((i+1:Nat):Int)]:=rfl
    have hll:(ids.map u32D).length=ids.length:=List.length_map ..
    simp only [go_sem,aeq,aeq.aeqF,simprocAttr]
    refine' walkW (zu hwi hwu) (zb zah <| zb zS <| zb zR <| za _)
    refine (zct (zgO (nwT (nwS s ids) t) 4 _ hok (by decide) (by decide))).mono ?_
    rintro r h' ⟨rfl,rfl⟩
    rw [hns]
    refine' zc (z7 hwi hw3 hml hll)
    exact ⟨⟨(i+1,t++X,ids++ [((i+1:Nat):Int)]),by omega,by show (t++X).length≤4116*(i+1);rw [List.length_append];omega,by show (ids++ [_]).length≤i+1;rw [List.length_append];exact Nat.succ_le_succ hids,hg⟩,by simp only [AS.le,leT,leH,zh,AsgK,AV.le,AV.leL,AObj.le,inH,idsT,idsH,AV.ids,AV.idsL,AV.idsR,AObj.ids,lk,hget,go_sem,aeq,aeq.aeqF,simprocAttr,hwi,hmn,List.map_append,List.length_append,u32D]<;>and_intros<;>first|rfl|exact AV.le_refl _|exact zj3 hok2,by simp;omega⟩
   |false=>
    rw [if_neg (by rw [hb];decide)] at hg
    simp only [go_sem,aeq,aeq.aeqF,simprocAttr]
    refine' zc hwi
    exact ⟨⟨(i+1,t,ids),by omega,by show t.length≤4116*(i+1);omega,by show ids.length≤i+1;omega,hg⟩,by simp only [AS.le,leT,leH,zh,AsgK,AV.le,AV.leL,AObj.le,inH,idsT,idsH,AV.ids,AV.idsL,AV.idsR,AObj.ids,lk,hget,go_sem,aeq,aeq.aeqF,simprocAttr,hwi]<;>and_intros<;>first|rfl|exact AV.le_refl _|exact zj3 hok,by simp;omega⟩
  ·subst hend
   rw [List.drop_length,zW] at hg
   rw [hg] at eo
   have hl1:=zaT s.k 1 []
   refine' zar (zP 18) hcmp
   refine zaW 6 rfl ?_
   have hpt:=nw_tr hok.p (AV.frzd 6 (.arr 1 ((nwT (nwS s ids) t).n.metas.map u32D)))
   simp only [go_sem,aeq,aeq.aeqF,simprocAttr,hpt]
   refine' zc fx
   refine (zG (zaI (nwT (nwS s ids) t) 1 [] hok (by decide) (by decide))).mono ?_
   rintro r h' ⟨rfl,rfl⟩
   refine' zc fx
   rw [hV,heo eo,hc0]
   simp [nwSay,nwW,nwT,nwS]
end Go.Aw
