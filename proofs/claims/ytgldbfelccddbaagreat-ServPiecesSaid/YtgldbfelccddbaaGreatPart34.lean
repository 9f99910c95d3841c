/-
 Parts of the proof: lemmas.
-/
import Derived.Test.YtgldbfelccddbaaGreatPart33
set_option maxRecDepth 100000
set_option maxHeartbeats 2000000
set_option linter.unusedSimpArgs false
set_option linter.unusedVariables false
namespace Go.Aw
open Go Go.Proofs
theorem zlg {s:NW} (h:NwOk s):(ctxs s.x.names).length≤1001∧∀c∈ctxs s.x.names,c.length≤1018:=by
 refine ⟨by have:=h.names;simp [ctxs];omega,fun c hc=>?_⟩
 rcases List.mem_cons.mp hc with rfl|hc
 ·decide
 ·obtain ⟨m,hm,rfl⟩:=List.mem_map.mp hc
  have:=h.name m hm
  rw [List.length_append]
  show 18+m.length≤1018
  omega
theorem ziH {s:NW} (hk:s.k=9∨s.k=10):ngOpt s.n s.x s.k s.d=za5 s.n s.x s.k s.d:=by
 unfold ngOpt
 rw [if_neg U,if_neg U,if_neg U,if_neg U,if_neg U,if_pos hk]
def nwT (s:NW) (t:Txt):NW:= { s with p:=if t= [] then s.p else .tp 3 9,out:=s.out++t }
theorem NwOk.nwT {s:NW} (h:NwOk s) {t:Txt} (ht:s.out.length+t.length≤100000000000000):NwOk (nwT s t):=by
 refine ⟨?_,by simp only [Go.Aw.nwT,List.length_append];exact ht,h.k0,h.k1,h.d,h.z0,h.z1,h.names,h.name⟩
 simp only [Go.Aw.nwT]
 split
 ·exact h.p
 ·exact .inr rfl
theorem zud (s:NW):nwT s []=s:=by simp [nwT]
theorem zue (s:NW) (t:Txt) (k:Int) (d:Txt) (h:t++sayS s.k k d≠ []):nwSay (nwT s t) k d=nwT s (t++sayS s.k k d):=by
 simp only [nwSay,nwW,nwT,if_neg h,List.append_assoc]
theorem nw_in {s:NW} (h:NwOk s):inH (nwH s) (s.p.ids++ [5]):=by
 rcases h.p with e|e<;>simp [inH,AV.ids,e,hget]
theorem zrm (s:NW) (h:NwOk s) (ho:s.out.length≤10000000000000) (hp:s.n.phase=1) (hk:s.k=9):ACall Tryz.prog 243 6 [.tp 3 0] (nwH s) (fun r h'=>r= .tup []∧h'=nwH (nwOpt s)):=by
 have hc0:ngClr s.n=s.n:=if_neg U
 have hd:=h.d
 obtain ⟨M,hM⟩:∃M,M=zbq s.d:=⟨_,rfl⟩
 obtain ⟨V,hV⟩:∃V,V=nwOpt s:=⟨_,rfl⟩
 have eo:ngOpt s.n s.x s.k s.d=za5 s.n s.x s.k s.d:=ziH (.inl hk)
 have heo:∀ {m:Ng} {t:Txt},ngOpt s.n s.x s.k s.d=(m,t)→nwOpt s= { s with n:=ngClr m,p:= .tp 3 9,out:=s.out++t } :=zcd U
 have hk9:(s.k==10)=false:=bg
 have hk10:¬s.k=10:=U
 have hn:s.n= { s.n with metas:=s.n.metas } :=rfl
 unfold za5 at eo
 rw [← hM] at eo
 simp only [if_neg hk10] at eo
 rw [← hV]
 have hcx:=zlg h
 have hnl:=h.names
 have hnn:∀t∈s.x.names,t.length≤1000000:=fun t ht=>Nat.le_trans (h.name t ht) ae
 refine bod Tryz.func243 Tryz.ntmps243 (fun base=>?_)
 refine' walkW (zj hM.symm hk9) (za zbx <| za zaO <| za za0 <| zb _)
 ·rw [if_pos ak] at eo
  refine (zam (zcv s 2147483651 [] h ae ae)).mono ?_
  rintro r h' ⟨rfl,rfl⟩
  refine' zc fx
  rw [hV,heo eo,hc0]
  rfl
 ·rename_i hcA
  rw [if_neg (by simpa using hcA),if_pos bb] at eo
  refine (zam (zcv s 2147483657 [] h ae ae)).mono ?_
  rintro r h' ⟨rfl,rfl⟩
  refine' zc fx
  rw [hV,heo eo,hc0]
  rfl
 rename_i hK hcB
 rw [if_neg (by simpa using hcB),if_neg cA] at eo
 have hl8:M.2.1.length≤8:=cA
 refine (zam (zg8 s M.1)).mono ?_
 rintro r h' ⟨rfl,rfl⟩
 cases h2:oursS M.1 with
 |false=>
  rw [if_pos h2] at eo
  simp only [go_sem,aeq,aeq.aeqF,simprocAttr,h2]
  refine' zc fx
  refine (zam (zcv s 2147483654 [] h ae ae)).mono ?_
  rintro r h' ⟨rfl,rfl⟩
  refine' zc fx
  rw [hV,heo eo,hc0]
  rfl
 | true=>
  rw [if_neg (by rw [h2];decide)] at eo
  simp only [go_sem,aeq,aeq.aeqF,simprocAttr,h2]
  obtain ⟨C,hC⟩:∃C,C=ctxs s.x.names:=⟨_,rfl⟩
  have hct:∀c∈C,Lib.indexByte c 58=4∧(c.take 5=baseC∨c.take 5=qemuC):=fun c hc=>zp6 (hC ▸ hc)
  rw [← hC] at hcx eo
  refine' walkW hC.symm (za zbx <| za zaO <| za za0 <| zb _)
  refine zk (fun q: { q:Nat×Txt×List Int // q.1≤C.length∧q.2.1.length≤4116*q.1∧(q.1=0→q.2.1= [])∧zao s.k M.2.1 0 C [] []=zao s.k M.2.1 q.1 (C.drop q.1) q.2.1 q.2.2 } =>⟨[(0,true,.tp 3 0),(2,true,.d (.bool false)),(4,true,.d (.sl 1 (M.2.1.map strD))),(59,true,.d (.sl 1 (C.map strD))),(60,true,.d (.int .i64 C.length)),(61,true,.d (.int .i64 q.1.1))],nwH (nwT s q.1.2.1),some []⟩) (fun q=>C.length - q.1.1) ⟨(0,[],[]),Nat.zero_le _,Nat.zero_le _,fun _=>rfl,rfl⟩ (by simp only [zud];simp only [AS.le,leT,leH,zf,AsgK,AV.le,AV.leL,AObj.le,inH,idsT,idsH,AV.ids,AV.idsL,AV.idsR,AObj.ids,lk,hget,go_sem,aeq,aeq.aeqF,simprocAttr]<;>and_intros<;>first|rfl|exact AV.le_refl _|exact nw_in h) (fun q=>?_)
  obtain ⟨⟨i,t,ids⟩,hi,ht,ht0,hg⟩:=q
  simp only at hi ht ht0 hg ⊢
  have hok:NwOk (nwT s t):=h.nwT U
  rcases zy strD C i hi with ⟨m,hq,hlt,hcmp,hrow,hdr,htk⟩|⟨hend,hcmp⟩
  ·simp only [strD] at hrow
   have hmm:=List.mem_of_getElem? hq
   have hmc:=hcx.2 m hmm
   have hwi:=zn (i:=i) U
   rw [hdr,zao] at hg
   refine' walkW (zj hcmp hrow) (za zbx <| za zaO <| za za0 <| zb _)
   refine (zam (zrl (nwT s t) m M.2.1 U U (hct m hmm).1 (hct m hmm).2 (.inl hk))).mono ?_
   rintro r h' ⟨rfl,rfl⟩
   have hak:zda m M.2.1 ((nwT s t).k !=10)=zda m M.2.1 (s.k !=10):=rfl
   rw [hak]
   cases hb:zda m M.2.1 (s.k !=10) with
   |true=>
    rw [if_pos hb] at hg
    have hwu:IntKind.u64.wrap ((i+1:Nat):Int)=((i+1:Nat):Int):=zA U U
    have hpl:=zcF ((i+1:Nat):Int)
    obtain ⟨X,hX⟩:∃X,X=sayS s.k 4 (putS8 ((i+1:Nat):Int) 4++m):=⟨_,rfl⟩
    have hXl:X.length≤4116:=cI
    have hXn:t++X≠ []:=eb
    have hns:nwSay (nwT s t) 4 (putS8 ((i+1:Nat):Int) 4++m)=nwT s (t++X):=by rw [hX];exact zue s t 4 _ (by rw [← hX];exact hXn)
    rw [← hX] at hg
    have hok2:NwOk (nwT s (t++X)):=h.nwT aR
    simp only [go_sem,aeq,aeq.aeqF,simprocAttr]
    refine' walkW (zj hwi hwu) (za zbx <| za zaO <| za za0 <| zb _)
    refine (zam (zcv (nwT s t) 4 _ hok ae ae)).mono ?_
    rintro r h' ⟨rfl,rfl⟩
    rw [hns]
    refine' zc hwi
    exact ⟨⟨(i+1,t++X,ids++ [((i+1:Nat):Int)]),U,cp,fun e=>by simp at e,hg⟩,by simp only [AS.le,leT,leH,zf,AsgK,AV.le,AV.leL,AObj.le,inH,idsT,idsH,AV.ids,AV.idsL,AV.idsR,AObj.ids,lk,hget,go_sem,aeq,aeq.aeqF,simprocAttr,hwi]<;>and_intros<;>first|rfl|exact AV.le_refl _|exact nw_in hok2,af⟩
   |false=>
    rw [if_neg bH] at hg
    simp only [go_sem,aeq,aeq.aeqF,simprocAttr]
    refine' zc hwi
    exact ⟨⟨(i+1,t,ids),U,cC,fun e=>by simp at e,hg⟩,by simp only [AS.le,leT,leH,zf,AsgK,AV.le,AV.leL,AObj.le,inH,idsT,idsH,AV.ids,AV.idsL,AV.idsR,AObj.ids,lk,hget,go_sem,aeq,aeq.aeqF,simprocAttr,hwi]<;>and_intros<;>first|rfl|exact AV.le_refl _|exact nw_in hok,af⟩
  ·subst hend
   rw [List.drop_length,zao] at hg
   rw [hg] at eo
   refine' zc hcmp
   have hl1:=zby s.k 1 []
   refine (zam (zcv (nwT s t) 1 [] hok ae ae)).mono ?_
   rintro r h' ⟨rfl,rfl⟩
   refine' zc fx
   rw [hV,heo eo,hc0]
   simp [nwSay,nwW,nwT]
open Go Go.Proofs
theorem zuf {cx:Cx} {c:Code} {Q:Exit→AS→Prop} {s:AS} (i o k:Nat) {T:TypeId} {cs:List AV} (hi:hget s.h i=some (.tvar T cs)) (ho:cs[o]?=some (.nils k))
    (h:AW cx c Q { s with h:=(fresh cx.fl s.h,.arr k [])::hset s.h i (.tvar T (cs.set o (.osl (fresh cx.fl s.h) k 0 0 0))) }):AW cx c Q s:=fun E a w hs=>by
  have hne:fresh cx.fl s.h≠i:=fun e=>by
    have:=zbB cx.fl s.h
    rw [e,hi] at this;cases this
  have cc:Chg E s.h w (E.set (fresh cx.fl s.h) none 0) ((fresh cx.fl s.h,.arr k [])::s.h) w (fresh cx.fl s.h):=
    { os:=rfl,tape:=rfl,output:=rfl,size:=Nat.le_refl _,envO:=fun j e=>az,envC:=fun j e=>az,M:=rfl,N:=rfl,hh:=fun j e=>bc,
      gi:=bG
      blk:=fun b hb _=>rfl
      new:=fun b _ hb=>by simp [Env.set] at hb }
  have hs1:=cc.sat (t:=s.t) (g:=s.g) hs (fun o ho=>by
    simp [hget] at ho
    subst ho
    simp only [RepObj]
    exact .inl ⟨aw,.inl trivial⟩)
  have hi1:hget ((fresh cx.fl s.h,.arr k [])::s.h) i=some (.tvar T cs):=by simp [hget,hne,hi]
  have e1:(fresh cx.fl s.h,AObj.arr k [])::hset s.h i (.tvar T (cs.set o (.osl (fresh cx.fl s.h) k 0 0 0)))=hset ((fresh cx.fl s.h,.arr k [])::s.h) i (.tvar T (cs.set o (.osl (fresh cx.fl s.h) k 0 0 0))):=by
    simp [hset,hne]
  obtain ⟨E1,hE1⟩:∃E1,E1=E.set (fresh cx.fl s.h) none 0:=⟨_,rfl⟩
  rw [← hE1] at hs1 cc
  obtain ⟨b,c',T',fz,g1,g2,g3,g4,g5⟩:=hs1.hp.tvar hi1
  have ch:=zhH (w:=w) hs1.hp hi1 (cs':=cs.set o (.osl (fresh cx.fl s.h) k 0 0 0)) aa g1 (.cells c' T' fz)
  rw [zkY g2] at ch
  have hs2:=ch.sat (t:=s.t) (g:=s.g) hs1 (fun ob hob=>by
    rw [zh hi1] at hob
    cases hob
    simp only [RepObj]
    refine ⟨b,c',T',fz,g1,g2,?_,g4,g5⟩
    obtain ⟨v,hv,hvr⟩:=Reps.get g3 ho
    simp only [Rep] at hvr
    subst hvr
    have h3:=ch.reps g3
    have:=h3.set (i:=o) (a:= .osl (fresh cx.fl s.h) k 0 0 0) (v:= .slice none 0 0) (by
      simp only [Rep]
      refine ⟨⟨_,_,_,rfl⟩,[],?_,aa,aa,fun _=> .inl ⟨by rw [hE1];simp [Env.set],trivial⟩⟩
      rw [zH (by simpa using hne)]
      simp [hget])
    have e2:c'.toList.set o (.slice none 0 0)=c'.toList:=by
      obtain ⟨hlt,he⟩:=List.getElem?_eq_some_iff.1 hv
      rw [← he,List.set_getElem_self]
    rw [e2] at this
    exact this)
  rw [← e1] at hs2
  refine wpIn_mono (h _ a w hs2) (fun _ _ _ hr=>hr.trans (Evo.trans (cc.evo (.inr (zaM _ _))) ?_))
  rw [e1]
  exact ch.evo (.inl (by simp [hi1]))
def nwCo (s:NW):List AV:= [.d (.int .i64 s.n.phase),.d (.str s.n.buf),.d (.bool s.n.brief),.d (.bool s.n.chunks),.osl 6 1 s.n.metas.length 0 s.n.metas.length,.d (.int .u64 s.x.size),.d (.sl 1 (s.x.names.map strD)),.d (.int .u32 s.k),.d (.str s.d),s.p,.bsl 5 s.out.length]
attribute [go_sem] nwCo
abbrev nwHo (s:NW):AHeap:= [(6,.arr 1 (s.n.metas.map u32D)),(5,.buf 5 s.out),(3,.tvar 182 (nwCo s))]
theorem zug (s:NW) (t:Txt) (h:NwOk s) (ht:t.length≤1000000):ACallAt Tryz.prog 7 113 [.tp 3 9,.d (.str t)] (nwHo s) (fun r h'=>r= .tup [.d (.int .i64 t.length),.d .nilif]∧h'=nwHo (nwW s t)):=by
 have hp:=h.p
 have ho:=h.out
 refine (zdP (i:=3) (j:=5) (o:=9) (T:=182) (cs:=nwCo s) (xs:=s.out) (n:=s.out.length) rfl (hp.imp (fun e=>by simp [nwCo,e]) (fun e=>by simp [nwCo,e])) rfl rfl rfl zua U).mono ?_
 rintro r h' ⟨rfl,rfl⟩
 refine ⟨rfl,?_⟩
 simp [nwHo,hset,nwCo,nwW]
theorem zlh (s:NW) (kind:Int) (data:Txt) (h:NwOk s) (h0:0≤kind) (h1:kind≤4294967295):ACall Tryz.prog 176 7 [.tp 3 0,.d (.int .u32 kind),.d (.str data)] (nwHo s) (fun r h'=>r= .tup []∧h'=nwHo (nwSay s kind data)):=by
 have hk0:=h.k0
 have hk1:=h.k1
 have hl:=zby s.k kind data
 refine bod Tryz.func176 Tryz.ntmps176 (fun base=>?_)
 refine' walkW fx (za ziG <| zb _)
 refine (zug s _ h U).mono ?_
 rintro r h' ⟨rfl,rfl⟩
 rfl
theorem zp7 {s:NW} (h:NwOk s):inH (nwHo s) (s.p.ids++ [5]):=by
 rcases h.p with e|e<;>simp [inH,AV.ids,e,hget]
theorem nw_tr {p:AV} (h:p= .d .nilp∨p= .tp 3 9) (f:AV→AV):AV.tr (onI 6 f) p=p:=by
 rcases h with rfl|rfl<;>rfl
theorem zfs {f:FuncId} {args:List AV} {s t:NW} {r0:AV} (hc:ACall Tryz.prog f 7 args (nwHo s) (fun r h'=>r=r0∧h'=nwHo t)):ACallAt Tryz.prog 6 f args (nwHo s) (fun r h'=>r=r0∧h'=nwHo t):=
 hc.whole (zbK rfl) ae (fun _ h' hk i hi=>by
  rw [hk.2]
  simp only [hget] at hi ⊢
  by_cases h6:6=i
  ·simp [h6]
  by_cases h5:5=i
  ·simp [h6,h5]
  by_cases h3:3=i
  ·simp [h6,h5,h3]
  simp [h6,h5,h3] at hi)
theorem zwt (s:NW) (t:Txt):ACall Tryz.prog 294 7 [.tp 3 0,.d (.str t)] (nwHo s) (fun r h'=>r= .d (.bool (oursS t))∧h'=nwHo s):=by
 refine bod Tryz.func294 Tryz.ntmps294 (fun base=>?_)
 refine' zc fx
 rfl
theorem zoE (s:NW) (c:Txt) (l:List Txt) (hl:l.length≤1000000) (hcl:c.length≤1000000) (h4:Lib.indexByte c 58=4) (h5:c.take 5=baseC∨c.take 5=qemuC) (h10:s.k=10):ACall Tryz.prog 301 7 [.tp 3 0,.d (.str c),.d (.sl 1 (l.map strD))] (nwHo s) (fun r h'=>r= .d (.bool (zda c l (s.k !=10)))∧h'=nwHo s):=by
 rw [← zmO c l (s.k !=10) h5]
 have h5l:=zuc h5
 have hw5:IntKind.i64.wrap 5=5:=ae
 have hkk:(s.k !=10)=false:=by rw [h10];rfl
 have hk9:(s.k==9)=false:=by rw [h10];rfl
 rw [hkk]
 refine bod Tryz.func301 Tryz.ntmps301 (fun base=>?_)
 refine' walkW (zq h4 hw5 hk9) (za zeH <| za zfB <| zb _)
 all_goals rw [hc]
def nwS (s:NW) (ids:List Int):NW:= { s with n:= { s.n with metas:=ids } }
theorem NwOk.s {s:NW} (h:NwOk s) (ids:List Int):NwOk (nwS s ids):=h.n _
theorem zoF (s:NW) (h:NwOk s) (ho:s.out.length≤10000000000000) (hp:s.n.phase=1) (hk:s.k=10):ACall Tryz.prog 243 6 [.tp 3 0] (nwH s) (fun r h'=>r= .tup []∧h'=nwH (nwOpt s)):=by
 have hc0:∀m,ngClr { s.n with metas:=m } = { s.n with metas:=m } :=fun m=>if_neg (show ¬s.n.phase=3 by omega)
 have hd:=h.d
 obtain ⟨M,hM⟩:∃M,M=zbq s.d:=⟨_,rfl⟩
 obtain ⟨V,hV⟩:∃V,V=nwOpt s:=⟨_,rfl⟩
 have eo:ngOpt s.n s.x s.k s.d=za5 s.n s.x s.k s.d:=ziH (.inr hk)
 have heo:∀ {m:Ng} {t:Txt},ngOpt s.n s.x s.k s.d=(m,t)→nwOpt s= { s with n:=ngClr m,p:= .tp 3 9,out:=s.out++t } :=zcd U
 have hk9:(s.k==10)=true:=bg
 unfold za5 at eo
 rw [← hM] at eo
 simp only [if_pos hk] at eo
 rw [← hV]
 have hcx:=zlg h
 have hnl:=h.names
 have hnn:∀t∈s.x.names,t.length≤1000000:=fun t ht=>Nat.le_trans (h.name t ht) ae
 refine bod Tryz.func243 Tryz.ntmps243 (fun base=>?_)
 refine' zga (zN 3) hk9 (za zbx <| za zaO <| za za0 <| zb _)
 refine zuf 3 4 1 rfl rfl ?_
 simp only [go_sem,aeq,aeq.aeqF,simprocAttr]
 refine aw_le ⟨[(0,true,.tp 3 0),(2,true,.d (.bool true))],nwHo (nwS s []),some []⟩ (by simp only [AS.le,leT,leH,zf,AsgK,AV.le,AV.leL,AObj.le,inH,idsT,idsH,AV.ids,AV.idsL,AV.idsR,AObj.ids,lk,hget,go_sem,aeq,aeq.aeqF,simprocAttr]<;>and_intros<;>first|rfl|exact AV.le_refl _|exact zp7 (h.s [])) ?_
 have hM':zbq (nwS s []).d=M:=hM.symm
 have hch:(nwS s []).n.chunks=s.n.chunks:=rfl
 have hdl:(nwS s []).d.length≤1000000:=Nat.le_trans hd ae
 refine' walkW (zq hM' hch hdl) (za zbx <| za zaO <| za za0 <| zb _)
 ·rw [if_pos ak] at eo
  refine (zfs (zlh (nwS s []) 2147483651 [] (h.s []) ae ae)).mono ?_
  rintro r h' ⟨rfl,rfl⟩
  refine hK _ ?_
  refine zbh 6 rfl ?_
  refine' zc fx
  rw [hV,heo eo,hc0]
  rfl
 ·rename_i hK hcA
  rw [if_neg (by simpa using hcA),if_pos bb] at eo
  refine (zfs (zlh (nwS s []) 2147483657 [] (h.s []) ae ae)).mono ?_
  rintro r h' ⟨rfl,rfl⟩
  refine hK _ ?_
  refine zbh 6 rfl ?_
  refine' zc fx
  rw [hV,heo eo,hc0]
  rfl
 rename_i hK hcB
 rw [if_neg (by simpa using hcB),if_neg cA] at eo
 have hl8:M.2.1.length≤8:=cA
 refine (zfs (zwt (nwS s []) M.1)).mono ?_
 rintro r h' ⟨rfl,rfl⟩
 cases h2:oursS M.1 with
 |false=>
  rw [if_pos h2] at eo
  simp only [go_sem,aeq,aeq.aeqF,simprocAttr,h2]
  refine' zc fx
  refine (zfs (zlh (nwS s []) 2147483654 [] (h.s []) ae ae)).mono ?_
  rintro r h' ⟨rfl,rfl⟩
  refine hK _ ?_
  refine zbh 6 rfl ?_
  refine' zc fx
  rw [hV,heo eo,hc0]
  rfl
 | true=>
  rw [if_neg (by rw [h2];decide)] at eo
  simp only [go_sem,aeq,aeq.aeqF,simprocAttr,h2]
  obtain ⟨C,hC⟩:∃C,C=ctxs s.x.names:=⟨_,rfl⟩
  have hct:∀c∈C,Lib.indexByte c 58=4∧(c.take 5=baseC∨c.take 5=qemuC):=fun c hc=>zp6 (hC ▸ hc)
  rw [← hC] at hcx eo
  have hC':ctxs (nwS s []).x.names=C:=hC.symm
  have hnl':(nwS s []).x.names.length≤1000000:=Nat.le_trans hnl ae
  have hnn':∀t∈(nwS s []).x.names,t.length≤1000000:=hnn
  refine' walkW (zj hC' hnl') (za zbx <| za zaO <| za za0 <| zb _)
  refine zk (fun q: { q:Nat×Txt×List Int // q.1≤C.length∧q.2.1.length≤4116*q.1∧q.2.2.length≤q.1∧zao s.k M.2.1 0 C [] []=zao s.k M.2.1 q.1 (C.drop q.1) q.2.1 q.2.2 } =>⟨[(0,true,.tp 3 0),(2,true,.d (.bool true)),(4,true,.d (.sl 1 (M.2.1.map strD))),(59,true,.d (.sl 1 (C.map strD))),(60,true,.d (.int .i64 C.length)),(61,true,.d (.int .i64 q.1.1))],nwHo (nwT (nwS s q.1.2.2) q.1.2.1),some []⟩) (fun q=>C.length - q.1.1) ⟨(0,[],[]),Nat.zero_le _,Nat.zero_le _,Nat.zero_le _,rfl⟩ (by simp only [zud];simp only [AS.le,leT,leH,zf,AsgK,AV.le,AV.leL,AObj.le,inH,idsT,idsH,AV.ids,AV.idsL,AV.idsR,AObj.ids,lk,hget,go_sem,aeq,aeq.aeqF,simprocAttr]<;>and_intros<;>first|rfl|exact AV.le_refl _|exact zp7 (h.s [])) (fun q=>?_)
  obtain ⟨⟨i,t,ids⟩,hi,ht,hids,hg⟩:=q
  simp only at hi ht hids hg ⊢
  have hok:NwOk (nwT (nwS s ids) t):=(h.s ids).nwT (show s.out.length+_≤_ by omega)
  rcases zy strD C i hi with ⟨m,hq,hlt,hcmp,hrow,hdr,htk⟩|⟨hend,hcmp⟩
  ·simp only [strD] at hrow
   have hmm:=List.mem_of_getElem? hq
   have hmc:=hcx.2 m hmm
   have hwi:=zn (i:=i) U
   rw [hdr,zao] at hg
   refine' walkW (zj hcmp hrow) (za zbx <| za zaO <| za za0 <| zb _)
   refine (zfs (zoE (nwT (nwS s ids) t) m M.2.1 U U (hct m hmm).1 (hct m hmm).2 hk)).mono ?_
   rintro r h' ⟨rfl,rfl⟩
   have hak:zda m M.2.1 ((nwT (nwS s ids) t).k !=10)=zda m M.2.1 (s.k !=10):=rfl
   rw [hak]
   cases hb:zda m M.2.1 (s.k !=10) with
   |true=>
    rw [if_pos hb] at hg
    have hwu:IntKind.u64.wrap ((i+1:Nat):Int)=((i+1:Nat):Int):=zA U U
    have hw3:IntKind.u32.wrap ((i+1:Nat):Int)=((i+1:Nat):Int):=zbT U U
    have hpl:=zcF ((i+1:Nat):Int)
    obtain ⟨X,hX⟩:∃X,X=sayS s.k 4 (putS8 ((i+1:Nat):Int) 4++m):=⟨_,rfl⟩
    have hXl:X.length≤4116:=cI
    have hXn:t++X≠ []:=eb
    have hns:nwSay (nwT (nwS s ids) t) 4 (putS8 ((i+1:Nat):Int) 4++m)=nwT (nwS s ids) (t++X):=by rw [hX];exact zue (nwS s ids) t 4 _ (by show t++sayS s.k 4 _≠ [];rw [← hX];exact hXn)
    rw [← hX] at hg
    have hok2:NwOk (nwT (nwS s (ids++ [((i+1:Nat):Int)])) (t++X)):=(h.s _).nwT (by show s.out.length+_≤_;rw [List.length_append];omega)
    have hml:(nwT (nwS s ids) (t++X)).n.metas=ids:=rfl
    have hmn:(nwT (nwS s (ids++ [((i+1:Nat):Int)])) (t++X)).n.metas=ids++ [((i+1:Nat):Int)]:=rfl
    have hll:(ids.map u32D).length=ids.length:=List.length_map ..
    simp only [go_sem,aeq,aeq.aeqF,simprocAttr]
    refine' walkW (zj hwi hwu) (za zbx <| za zaO <| za za0 <| zb _)
    refine (zfs (zlh (nwT (nwS s ids) t) 4 _ hok ae ae)).mono ?_
    rintro r h' ⟨rfl,rfl⟩
    rw [hns]
    refine' zc (zE hwi hw3 hml hll)
    exact ⟨⟨(i+1,t++X,ids++ [((i+1:Nat):Int)]),U,cp,cU,hg⟩,by simp only [AS.le,leT,leH,zf,AsgK,AV.le,AV.leL,AObj.le,inH,idsT,idsH,AV.ids,AV.idsL,AV.idsR,AObj.ids,lk,hget,go_sem,aeq,aeq.aeqF,simprocAttr,hwi,hmn,List.map_append,List.length_append,u32D]<;>and_intros<;>first|rfl|exact AV.le_refl _|exact zp7 hok2,af⟩
   |false=>
    rw [if_neg bH] at hg
    simp only [go_sem,aeq,aeq.aeqF,simprocAttr]
    refine' zc hwi
    exact ⟨⟨(i+1,t,ids),U,cC,du,hg⟩,by simp only [AS.le,leT,leH,zf,AsgK,AV.le,AV.leL,AObj.le,inH,idsT,idsH,AV.ids,AV.idsL,AV.idsR,AObj.ids,lk,hget,go_sem,aeq,aeq.aeqF,simprocAttr,hwi]<;>and_intros<;>first|rfl|exact AV.le_refl _|exact zp7 hok,af⟩
  ·subst hend
   rw [List.drop_length,zao] at hg
   rw [hg] at eo
   have hl1:=zby s.k 1 []
   refine' zad (zN 18) hcmp
   refine zbh 6 rfl ?_
   have hpt:=nw_tr hok.p (AV.frzd 6 (.arr 1 ((nwT (nwS s ids) t).n.metas.map u32D)))
   simp only [go_sem,aeq,aeq.aeqF,simprocAttr,hpt]
   refine' zc fx
   refine (zam (zcv (nwT (nwS s ids) t) 1 [] hok ae ae)).mono ?_
   rintro r h' ⟨rfl,rfl⟩
   refine' zc fx
   rw [hV,heo eo,hc0]
   simp [nwSay,nwW,nwT,nwS]
end Go.Aw
