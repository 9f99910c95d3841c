/-
 Parts of the proof: lemmas.
-/
import Derived.Test.YtgldbfelccddbaaGreatBeg11
import Derived.Test.YtgldbfelccddbaaGreatBeg24
set_option maxRecDepth 100000
set_option maxHeartbeats 2000000
set_option linter.unusedSimpArgs false
set_option linter.unusedVariables false
namespace Go.Aw
open Go Go.Proofs
structure Jdg where
 q:Rq
 n:Ng
 err:Int
def jdgA (j:Jdg):AV:= .agg [.d (.int .i64 j.q.flags),.d (.int .i64 j.q.kind),.d (.int .u64 j.q.cookie),.d (.int .u64 j.q.frm),.d (.int .u32 j.q.len),.d (.str j.q.data),.d (.int .i64 j.n.phase),.d (.str j.n.buf),.d (.bool j.n.brief),.d (.bool j.n.chunks),.d (.sl 1 (j.n.metas.map u32D)),.d (.int .u32 j.err)]
attribute [go_sem] jdgA chkA smpA
theorem zpr (j:Jdg):Jdg.mk ⟨j.q.flags,j.q.kind,j.q.cookie,j.q.frm,j.q.len,j.q.data⟩ ⟨j.n.phase,j.n.buf,j.n.brief,j.n.chunks,j.n.metas⟩ j.err=j:=rfl
theorem zps (c:Chk):Chk.mk c.done c.kind c.cookie c.data=c:=rfl
theorem zpt (c:Smp):Smp.mk c.err c.cookie c.data=c:=rfl
noncomputable def zhF:PT Jdg:=aggT (consL (intT .i64) (consL (intT .i64) (consL (intT .u64) (consL (intT .u64) (consL (intT .u32) (consL strT (consL (intT .i64) (consL strT (consL boolT (consL boolT (consL (slT 1 u32D zee) (consL (intT .u32) nilL)))))))))))) (fun p=>⟨⟨p.1,p.2.1,p.2.2.1,p.2.2.2.1,p.2.2.2.2.1,p.2.2.2.2.2.1⟩,⟨p.2.2.2.2.2.2.1,p.2.2.2.2.2.2.2.1,p.2.2.2.2.2.2.2.2.1,p.2.2.2.2.2.2.2.2.2.1,p.2.2.2.2.2.2.2.2.2.2.1⟩,p.2.2.2.2.2.2.2.2.2.2.2.1⟩) (fun x=>(x.q.flags,x.q.kind,x.q.cookie,x.q.frm,x.q.len,x.q.data,x.n.phase,x.n.buf,x.n.brief,x.n.chunks,x.n.metas,x.err,())) (fun _=>rfl)
attribute [go_sem] zhF
noncomputable def zmd:PT Chk:=aggT (consL boolT (consL (intT .i64) (consL (intT .u64) (consL strT nilL)))) (fun p=>⟨p.1,p.2.1,p.2.2.1,p.2.2.2.1⟩) (fun x=>(x.done,x.kind,x.cookie,x.data,())) (fun _=>rfl)
attribute [go_sem] zmd
attribute [go_sem] zpr zps zpt
def zeP (j:Jdg) (e:Int):Bool:=if j.err≠0 then e==j.err else (e==5||e==28)
theorem zme (j:Jdg) (e:Int):ACall Tryz.prog 144 0 [jdgA j,.d (.int .u32 e)] [] (fun r _=>r= .d (.bool (zeP j e))):=by
 unfold zeP
 by_cases h:j.err=0
 ·have hc:(j.err !=0)=false:=by simpa using h
  rw [if_neg (fun k=>k h)]
  refine fbod Tryz.func144 Tryz.ntmps144 (fun base=>?_)
  refine' zc hc
 ·have hc:(j.err !=0)=true:=by simpa using h
  rw [if_pos h]
  refine fbod Tryz.func144 Tryz.ntmps144 (fun base=>?_)
  refine' zc hc
theorem zn6 (j:Jdg) (c:Chk) (k:Int):ACall Tryz.prog 151 0 [jdgA j,chkA c,.d (.int .i64 k)] [] (fun r _=>r= .tup [.d (.bool (c.done&&c.kind==0&&c.data== [])),.d (.bool true)]):=by
 refine fbod Tryz.func151 Tryz.ntmps151 (fun base=>?_)
 refine' zc fx
@[go_sem] noncomputable def zcM:Ent Tryz.prog 144:= .ofL (consL zhF (consL (intT .u32) nilL)) (fun (j,e,_)=>True) (fun (j,e,_)=> .d (.bool (zeP j e))) (fun (j,e,_) hp=>⟨rfl,zme j e⟩)
@[go_sem] noncomputable def zfJ:Ent Tryz.prog 151:= .ofL (consL zhF (consL zmd (consL (intT .i64) nilL))) (fun (j,c,k,_)=>True) (fun (j,c,k,_)=> .tup [.d (.bool (c.done&&c.kind==0&&c.data== [])),.d (.bool true)]) (fun (j,c,k,_) hp=>⟨rfl,zn6 j c k⟩)
def JdgOk (j:Jdg):Prop:=0≤j.q.frm∧j.q.frm<18446744073709551616∧0≤j.q.len∧j.q.len<4294967296∧j.n.metas.length≤1000000
def ziG (j:Jdg) (c:Chk):Bool:=c.done&&c.kind==1&&(c.data.length:Int)==8+j.q.len&&(putN j.q.frm.toNat 8).isPrefixOf c.data
theorem zhG (j:Jdg) (c:Chk) (k:Int) (h:JdgOk j):AC 149 [jdgA j,chkA c,.d (.int .i64 k)] (.tup [.d (.bool (ziG j c)),.d (.bool true)]):=by
 obtain ⟨h1,h2,h3,h4,h5⟩:=h
 have hw:IntKind.i64.wrap j.q.len=j.q.len:=zf (by omega) (by omega)
 have hw2:IntKind.i64.wrap (8+j.q.len)=8+j.q.len:=zf (by omega) (by omega)
 have hp:putS8 j.q.frm 8=putN j.q.frm.toNat 8:=rfl
 unfold ziG
 refine fbod Tryz.func149 Tryz.ntmps149 (fun base=>?_)
 refine' walkW (zF hw hw2 hp) (zb zR <| zb zfd <| za _)
@[go_sem] noncomputable def zcz:Ent Tryz.prog 149:= .m3 zhF zmd (intT .i64) zhG
def zag (j:Jdg):Int:=if j.q.kind=0∧j.err=0 then j.q.len else 0
def zV (j:Jdg) (s:Txt):Bool×Txt×Int:=
 if ((smpRd s (zag j)).2.2==22)=true then (false,[],22)
 else if ((smpRd s (zag j)).2.2 !=0||(smpRd s (zag j)).1.cookie !=j.q.cookie||((smpRd s (zag j)).1.err !=0||j.err !=0)&& !zeP j (smpRd s (zag j)).1.err)=true then (false,[],14)
 else (true,(smpRd s (zag j)).2.1,0)
theorem zkC (j:Jdg) (s:Txt) (hp:JdgOk j∧s.length≤9223372036854775807):AC 77 [jdgA j,.d (.str s)] (.tup [.d (.bool (zV j s).1),.d (.str (zV j s).2.1),.d (.int .i64 (zV j s).2.2)]):=by
 obtain ⟨h,hs⟩:=hp
 obtain ⟨h1,h2,h3,h4,h5⟩:=h
 have hw:IntKind.i64.wrap j.q.len=j.q.len:=zf (by omega) (by omega)
 obtain ⟨V,hV⟩:∃V,V=zV j s:=⟨_,rfl⟩
 rw [← hV]
 obtain ⟨N,hN⟩:∃N,N=zag j:=⟨_,rfl⟩
 rw [zV,← hN] at hV
 obtain ⟨R,hR⟩:∃R,R=smpRd s N:=⟨_,rfl⟩
 rw [← hR] at hV
 have hRs:=hR.symm
 unfold zag at hN
 by_cases hk:j.q.kind=0∧j.err=0
 ·have hc:(j.q.kind==0&&j.err==0)=true:=by simpa using hk
  rw [if_pos hk] at hN
  subst hN
  refine fbod Tryz.func77 Tryz.ntmps77 (fun base=>?_)
  refine' walkW (zF hw hc hRs) (zb zdf <| zb zcM <| za _)
  ·rw [hV,if_pos hc,eq_of_beq hc]
  ·rename_i hd
   rw [hd,hc];rfl
  ·rename_i hd
   rw [hd,hc];rfl
  ·rename_i hd
   rw [hV,if_neg (by rw [hd];exact Bool.false_ne_true),if_pos hc]
  ·rename_i hd
   rw [hV,if_neg (by rw [hd];exact Bool.false_ne_true),if_neg (by rw [show (R.2.2 !=0||R.1.cookie !=j.q.cookie||(R.1.err !=0||j.err !=0)&& !zeP j R.1.err)=false from hc];exact Bool.false_ne_true)]
 ·have hc:(j.q.kind==0&&j.err==0)=false:=by simpa using hk
  rw [if_neg hk] at hN
  subst hN
  refine fbod Tryz.func77 Tryz.ntmps77 (fun base=>?_)
  refine' walkW (zF hw hc hRs) (zb zdf <| zb zcM <| za _)
  ·rw [hV,if_pos hc,eq_of_beq hc]
  ·rename_i hd
   rw [hd,hc];rfl
  ·rename_i hd
   rw [hd,hc];rfl
  ·rename_i hd
   rw [hV,if_neg (by rw [hd];exact Bool.false_ne_true),if_pos hc]
  ·rename_i hd
   rw [hV,if_neg (by rw [hd];exact Bool.false_ne_true),if_neg (by rw [show (R.2.2 !=0||R.1.cookie !=j.q.cookie||(R.1.err !=0||j.err !=0)&& !zeP j R.1.err)=false from hc];exact Bool.false_ne_true)]
@[go_sem] noncomputable def zd1:Ent Tryz.prog 77:= .m2 zhF strT zkC
open Go Go.Proofs
def chkR:Nat→Nat→Txt→List (Nat×Chk×Txt×Int)
 |0,_,_=> []
 |n+1,i,s=>(i,chkRd s)::if (chkRd s).2.2≠0 then [] else chkR n (i+1) (chkRd s).2.1
def chkI (r:Nat×Chk×Txt×Int):List AV:= [.d (.int .i64 r.1),.agg [.d (.bool r.2.1.done),.d (.int .i64 r.2.1.kind),.d (.int .u64 r.2.1.cookie),.d (.str r.2.1.data),.d (.str r.2.2.1),.d (.int .i64 r.2.2.2)]]
theorem zmA (s:Txt):ACall Tryz.prog 78 50 [.d (.str s)] [] (fun r h'=>r= .fn (.func 145) [] [.vp 50 0]∧h'= [(50,.var [.d (.str s)])]):=by
 refine bod Tryz.func78 Tryz.ntmps78 (fun base=>?_)
 refine' zc fx
theorem zcQ {s:Txt} (h:(chkRd s).2.2=0):(chkRd s).2.1.length+20≤s.length:=by
 unfold chkRd at h ⊢
 split at h
 ·rename_i h1
  exact absurd h h1
 split at h
 ·simp at h
 split at h
 ·simp at h
 split at h
 ·simp at h
 rw [if_neg (by assumption),if_neg (by assumption),if_neg (by assumption),if_neg (by assumption)]
 simp only [List.length_drop]
 omega
theorem zgG (n:Nat) (s:Txt) (hn:s.length<n) (hs:n≤1000000):AIter Tryz.prog 145 100 [] [.vp 50 0] [(50,.var [.d (.str s)])] ((chkR n 0 s).map chkI) (fun g h'=>(∀xs,g=some xs→xs=(chkR n 0 s).map chkI)∧∃u,h'= [(50,.var [u])]):=by
 refine itr Tryz.func145 Tryz.ntmps145 (fun base y=>?_)
 refine' zbm fx
 refine zt (fun q: { q:Nat×Nat×Txt×List (List AV) // q.2.2.1.length<q.1∧q.1+q.2.1≤n∧q.2.2.2++(chkR q.1 q.2.1 q.2.2.1).map chkI=(chkR n 0 s).map chkI } =>⟨[(0,true,.fn (.yield y.yl) [] []),(1,true,.vp 50 0),(3,true,.d (.int .i64 q.1.2.1))],[(50,.var [.d (.str q.1.2.2.1)])],some q.1.2.2.2⟩) (fun q=>q.1.1) ⟨(n,0,s,[]),hn,Nat.le_refl _,rfl⟩ le1 (fun q=>?_)
 obtain ⟨⟨k,i,z,xs⟩,hz,hk,hf⟩:=q
 simp only at hz hk hf ⊢
 cases k with
 |zero=>exact absurd hz (by omega)
 | succ k=>
  rw [chkR,List.map_cons] at hf
  obtain ⟨R,hR⟩:∃R,R=chkRd z:=⟨_,rfl⟩
  have hsh:R.2.2=0→R.2.1.length+20≤z.length:=by rw [hR];exact zcQ
  rw [← hR] at hf
  have hpre:(xs++ [chkI (i,R)])<+:(chkR n 0 s).map chkI:=by rw [← hf];simp
  simp only [chkI] at hpre
  have hzl:z.length≤9223372036854775807:=by omega
  have hwi:=zp (i:=i) (by omega)
  refine' walkX hR.symm (zb zhB <| za _)
  ·rw [if_pos (by simpa using hc),List.map_nil] at hf
   rintro zs rfl
   exact hf
  ·exact ⟨_,rfl⟩
  ·have h0:R.2.2=0:=by simpa using hc
   have:=hsh h0
   rw [if_neg (fun e=>e h0)] at hf
   exact ⟨⟨(k,i+1,R.2.1,xs++ [chkI (i,R)]),by simp only;omega,by simp only;omega,by rw [← hf];simp⟩,by simp only [AS.le,leT,leH,zh,AsgK,AV.le,AV.leL,AObj.le,inH,idsT,idsH,AV.ids,AV.idsL,AV.idsR,AObj.ids,lk,hget,go_sem,aeq,aeq.aeqF,simprocAttr,hwi,chkI],by simp⟩
  ·exact ⟨_,rfl⟩
open Go
abbrev JF:=Chk→Nat→Bool×Bool
def wpcs (F:JF) (m:Nat):Nat→Nat→Txt→Bool×Txt×Int
 |0,_,_=>(false,[],14)
 |n+1,k,s=>
  if (chkRd s).2.2=22∧k≤m then (false,[],22)
  else if (chkRd s).2.2≠0∨(F (chkRd s).1 k).1=false∨m<k then (false,[],14)
  else if (F (chkRd s).1 k).2=true then (true,(chkRd s).2.1,0)
  else wpcs F m n (k+1) (chkRd s).2.1
theorem ziP {p t hd:Txt} {n:Nat} (h:rpBeg p hd n=0) (hh:hd.length=4) (h4:4≤n):rpBeg (p++t) hd n=0:=by
 have hl:=zbG h
 unfold rpBeg at h ⊢
 split at h
 ·omega
 rename_i h1
 have h1:p.take 4=hd.take p.length:=Decidable.of_not_not h1
 have h2:p.take 4=hd:=by rw [h1];exact List.take_of_length_le (by omega)
 rw [if_neg,if_neg (by rw [List.length_append];omega)]
 rw [List.take_append_of_le_length (by omega),h2,List.take_of_length_le (by rw [List.length_append];omega)]
 exact fun e=>e rfl
theorem zmE {p t hd:Txt} {n:Nat} (h:rpBeg (p++t) hd n=0∨rpBeg (p++t) hd n=22) (hh:hd.length=4):(rpBeg p hd n=0∧n≤p.length)∨(rpBeg p hd n=22∧p.length<n):=by
 have hb:(p++t).take 4=hd.take (p++t).length:=by
  unfold rpBeg at h
  split at h
  ·omega
  ·rename_i h1
   exact Decidable.of_not_not h1
 have hp:p.take 4=hd.take p.length:=by
  have:=congrArg (List.take p.length) hb
  rw [List.take_take,List.take_take,List.length_append,Nat.min_eq_left (Nat.le_add_right _ _)] at this
  rw [← this]
  rcases Nat.le_total p.length 4 with h4|h4
  ·rw [Nat.min_eq_left h4,List.take_of_length_le (l:=p) h4,List.take_append_of_le_length (Nat.le_refl _),List.take_length]
  ·rw [Nat.min_eq_right h4,List.take_append_of_le_length h4]
 unfold rpBeg
 rw [if_neg (fun e=>e hp)]
 by_cases h2:p.length<n
 ·rw [if_pos h2];exact .inr ⟨rfl,h2⟩
 ·rw [if_neg h2];exact .inl ⟨rfl,by omega⟩
theorem zdi {s t:Txt} {i:Nat} (h:i<s.length):(s++t).getD i 0=s.getD i 0:=by
 simp [List.getD_eq_getElem?_getD,List.getElem?_append_left h]
theorem zoi {p t:Txt} (h:20+numAt p 16 4≤p.length):chkQ (p++t)=chkQ p:=by
 unfold chkQ
 rw [zaG (by omega),zaG (by omega),zaG (by omega),zdi (by omega),List.drop_append_of_le_length (by omega),List.take_append_of_le_length (by rw [List.length_drop];omega)]
theorem zhN {p t:Txt} (h:(chkRd p).2.2=0):(chkRd (p++t)).2.2=0∧(chkRd (p++t)).1=(chkRd p).1∧(chkRd (p++t)).2.1=(chkRd p).2.1++t:=by
 unfold chkRd at h
 split at h
 ·rename_i h1
  exact absurd h h1
 rename_i h1
 split at h
 ·simp at h
 rename_i h2
 split at h
 ·simp at h
 rename_i h3
 split at h
 ·simp at h
 rename_i h4
 have hb:rpBeg p zaS 20=0:=Decidable.of_not_not h1
 have hl:=zbG hb
 have e1:chkRd p=(chkQ p,p.drop (20+numAt p 16 4),0):=by
  unfold chkRd
  rw [if_neg h1,if_neg h2,if_neg h3,if_neg h4]
 have e2:chkRd (p++t)=(chkQ p,p.drop (20+numAt p 16 4)++t,0):=by
  unfold chkRd
  rw [if_neg (fun e=>e (ziP hb rfl (by decide))),zaG (by omega),zdi (by omega),zdi (by omega),if_neg h2,if_neg h3,if_neg (by rw [List.length_append];omega),zoi (by omega),List.drop_append_of_le_length (by omega)]
 rw [e1,e2]
 exact ⟨rfl,rfl,rfl⟩
theorem zmF {p t:Txt} (h:(chkRd (p++t)).2.2=0∨(chkRd (p++t)).2.2=22):(chkRd p).2.2=0∨(chkRd p).2.2=22:=by
 have hb:rpBeg (p++t) zaS 20=0∨rpBeg (p++t) zaS 20=22:=by
  unfold chkRd at h
  split at h
  ·exact h
  ·rename_i h1
   exact .inl (Decidable.of_not_not h1)
 rcases zmE hb rfl with ⟨h1,h2⟩|⟨h1,h2⟩
 ·have hb0:rpBeg (p++t) zaS 20=0:=ziP h1 rfl (by decide)
  unfold chkRd at h ⊢
  rw [if_neg (fun e=>e hb0),zaG (by omega),zdi (by omega),zdi (by omega)] at h
  rw [if_neg (fun e=>e h1)]
  split at h
  ·simp at h
  rename_i h3
  rw [if_neg h3]
  split at h
  ·simp at h
  rename_i h4
  rw [if_neg h4]
  split
  ·exact .inr rfl
  ·exact .inl rfl
 ·right
  unfold chkRd
  rw [if_pos (by omega)]
  exact h1
theorem zjL (F:JF) (m:Nat) {t:Txt} :∀ (n k:Nat) (p:Txt),(wpcs F m n k p).1=true→(wpcs F m n k (p++t)).1=true∧(wpcs F m n k (p++t)).2.1=(wpcs F m n k p).2.1++t
 |0,k,p,h=>by cases h
 | n+1,k,p,h=>by
  rw [wpcs] at h
  split at h
  ·cases h
  rename_i h1
  split at h
  ·cases h
  rename_i h2
  have h0:(chkRd p).2.2=0:=Decidable.of_not_not (fun e=>h2 (.inl e))
  obtain ⟨e1,e2,e3⟩:=zhN (t:=t) h0
  rw [wpcs,wpcs,if_neg h1,if_neg h2,e1,e2,e3,if_neg (by omega),if_neg (fun e=>h2 (e.elim (fun e=>absurd rfl e) .inr))]
  split
  ·exact ⟨rfl,rfl⟩
  ·rename_i h3
   rw [if_neg h3] at h
   exact zjL F m n (k+1) _ h
theorem zjM (F:JF) (m:Nat) {t:Txt} :∀ (n k:Nat) (p:Txt),(wpcs F m n k (p++t)).1=true∨(wpcs F m n k (p++t)).2.2=22→(wpcs F m n k p).1=true∨(wpcs F m n k p).2.2=22
 |0,k,p,h=>by
  rcases h with h|h
  ·cases h
  ·exact absurd (show (14:Int)=22 from h) (by decide)
 | n+1,k,p,h=>by
  rw [wpcs] at h
  have hk:((chkRd (p++t)).2.2=0∨(chkRd (p++t)).2.2=22)∧k≤m:=by
   split at h
   ·rename_i h1
    exact ⟨.inr h1.1,h1.2⟩
   rename_i h1
   split at h
   ·rcases h with h|h
    ·cases h
    ·exact absurd (show (14:Int)=22 from h) (by decide)
   rename_i h2
   exact ⟨.inl (Decidable.of_not_not (fun e=>h2 (.inl e))),by
    have:¬m<k:=fun e=>h2 (.inr (.inr e))
    omega⟩
  rcases zmF hk.1 with h0|h0
  ·obtain ⟨e1,e2,e3⟩:=zhN (t:=t) h0
   rw [e1,e2,e3,if_neg (by omega)] at h
   rw [wpcs,h0,if_neg (by omega)]
   split at h
   ·rcases h with h|h
    ·cases h
    ·exact absurd (show (14:Int)=22 from h) (by decide)
   rename_i h2
   rw [if_neg h2]
   split at h
   ·rename_i h3
    rw [if_pos h3]
    exact .inl rfl
   ·rename_i h3
    rw [if_neg h3]
    exact zjM F m n (k+1) _ h
  ·rw [wpcs,if_pos ⟨h0,hk.2⟩]
   exact .inr rfl
theorem zpK (F:JF) (m:Nat) (ck:Int) (hF:∀c,(F c 0).1=true→c.cookie=ck) (n:Nat) (p:Txt) (h:(wpcs F m n 0 p).1=true):20≤p.length∧(numAt p 8 8:Int)=ck:=by
 cases n with
 |zero=>cases h
 | succ n=>
  rw [wpcs] at h
  split at h
  ·cases h
  split at h
  ·cases h
  rename_i h1 h2
  have h0:(chkRd p).2.2=0:=Decidable.of_not_not (fun e=>h2 (.inl e))
  have h3:(F (chkRd p).1 0).1=true:=by
   cases hf:(F (chkRd p).1 0).1 with
   |true=>rfl
   |false=>exact absurd (.inr (.inl hf)) h2
  have h4:=hF _ h3
  have h5:=zcQ h0
  refine ⟨by omega,?_⟩
  rw [← h4]
  unfold chkRd at h0 ⊢
  split at h0
  ·rename_i h1;exact absurd h0 h1
  split at h0
  ·simp at h0
  split at h0
  ·simp at h0
  split at h0
  ·simp at h0
  rw [if_neg (by assumption),if_neg (by assumption),if_neg (by assumption),if_neg (by assumption)]
  rfl
theorem zhO {p t:Txt} {n:Int} (h:(smpRd p n).2.2=0):(smpRd (p++t) n).2.2=0∧(smpRd (p++t) n).1=(smpRd p n).1∧(smpRd (p++t) n).2.1=(smpRd p n).2.1++t:=by
 unfold smpRd at h
 split at h
 ·simp at h
 rename_i h0
 split at h
 ·rename_i h1;exact absurd h h1
 rename_i h1
 split at h
 ·simp at h
 rename_i h2
 have hb:rpBeg p zde 16=0:=Decidable.of_not_not h1
 have hl:=zbG hb
 have hn:smpN (p++t) n=smpN p n:=by unfold smpN;rw [zaG (by omega)]
 have h0':0≤smpN p n:=by unfold smpN;split<;>omega
 have e1:smpRd p n=(⟨numAt p 4 4,numAt p 8 8,(p.drop 16).take (smpN p n).toNat⟩,(p.drop 16).drop (smpN p n).toNat,0):=by
  unfold smpRd
  rw [if_neg h0,if_neg h1,if_neg h2]
 have h3:(smpN p n).toNat≤(p.drop 16).length:=by omega
 have e2:smpRd (p++t) n=(⟨numAt p 4 4,numAt p 8 8,(p.drop 16).take (smpN p n).toNat⟩,(p.drop 16).drop (smpN p n).toNat++t,0):=by
  unfold smpRd
  rw [if_neg h0,if_neg (fun e=>e (ziP hb rfl (by decide))),hn,zaG (by omega),zaG (by omega),List.drop_append_of_le_length (by omega),if_neg (by rw [List.length_append];omega),List.take_append_of_le_length h3,List.drop_append_of_le_length h3]
 rw [e1,e2]
 exact ⟨rfl,rfl,rfl⟩
theorem zmG {p t:Txt} {n:Int} (h:(smpRd (p++t) n).2.2=0∨(smpRd (p++t) n).2.2=22):(smpRd p n).2.2=0∨(smpRd p n).2.2=22:=by
 have h0:¬(n<0∨4096<n):=by
  intro e
  unfold smpRd at h
  rw [if_pos e] at h
  simp at h
 have hb:rpBeg (p++t) zde 16=0∨rpBeg (p++t) zde 16=22:=by
  unfold smpRd at h
  rw [if_neg h0] at h
  split at h
  ·exact h
  ·rename_i h1
   exact .inl (Decidable.of_not_not h1)
 unfold smpRd
 rw [if_neg h0]
 rcases zmE hb rfl with ⟨h1,h2⟩|⟨h1,h2⟩
 ·rw [if_neg (fun e=>e h1)]
  split
  ·exact .inr rfl
  ·exact .inl rfl
 ·rw [if_pos (by omega)]
  exact .inr h1
theorem ziQ {j:Jdg} {p t:Txt} (h:(zV j p).1=true):(zV j (p++t)).1=true∧(zV j (p++t)).2.1=(zV j p).2.1++t:=by
 unfold zV at h
 split at h
 ·cases h
 rename_i h1
 split at h
 ·cases h
 rename_i h2
 have h0:(smpRd p (zag j)).2.2=0:=by
  refine Decidable.of_not_not (fun e=>h2 ?_)
  rw [show ((smpRd p (zag j)).2.2 !=0)=true from bne_iff_ne.2 e]
  rfl
 obtain ⟨e1,e2,e3⟩:=zhO (t:=t) h0
 have hd:¬((0:Int)==22)=true:=by decide
 rw [h0] at h2
 unfold zV
 rw [e1,e2,e3,h0]
 simp only [if_neg hd,if_neg h2,and_self]
theorem ziR {j:Jdg} {p t:Txt} (h:(zV j (p++t)).1=true∨(zV j (p++t)).2.2=22):(zV j p).1=true∨(zV j p).2.2=22:=by
 have hk:(smpRd (p++t) (zag j)).2.2=0∨(smpRd (p++t) (zag j)).2.2=22:=by
  unfold zV at h
  split at h
  ·rename_i h1
   exact .inr (eq_of_beq h1)
  split at h
  ·rcases h with h|h
   ·cases h
   ·exact absurd (show (14:Int)=22 from h) (by decide)
  ·rename_i h2
   left
   refine Decidable.of_not_not (fun e=>h2 ?_)
   rw [show ((smpRd (p++t) (zag j)).2.2 !=0)=true from bne_iff_ne.2 e]
   rfl
 rcases zmG hk with h0|h0
 ·obtain ⟨e1,e2,e3⟩:=zhO (t:=t) h0
  unfold zV at h ⊢
  rw [e1,e2,e3,if_neg (by decide)] at h
  rw [h0,if_neg (by decide)]
  split at h
  ·rcases h with h|h
   ·cases h
   ·exact absurd (show (14:Int)=22 from h) (by decide)
  ·rename_i h2
   rw [if_neg h2]
   exact .inl rfl
 ·unfold zV
  rw [h0,if_pos (by decide)]
  exact .inr rfl
theorem zkN {j:Jdg} {p:Txt} (h:(zV j p).1=true):16≤p.length∧(numAt p 8 8:Int)=j.q.cookie:=by
 unfold zV at h
 split at h
 ·cases h
 split at h
 ·cases h
 rename_i h1 h2
 have h2':=Bool.eq_false_iff.2 h2
 rw [Bool.or_eq_false_iff,Bool.or_eq_false_iff] at h2'
 obtain ⟨⟨h3,h4⟩,_⟩:=h2'
 have h0:(smpRd p (zag j)).2.2=0:=by simpa using h3
 have hc:(smpRd p (zag j)).1.cookie=j.q.cookie:=by simpa using h4
 rw [← hc]
 unfold smpRd at h0 ⊢
 split at h0
 ·simp at h0
 split at h0
 ·rename_i h1;exact absurd h0 h1
 split at h0
 ·simp at h0
 rename_i g1 g2 g3
 rw [if_neg (by assumption),if_neg (by assumption),if_neg (by assumption)]
 have hl:=zbG (Decidable.of_not_not g2)
 exact ⟨by omega,rfl⟩
abbrev RF:=Rq→Txt→Bool×Txt×Int
structure RfOk (F:RF):Prop where
 app:∀q p t,(F q p).1=true→(F q (p++t)).1=true∧(F q (p++t)).2.1=(F q p).2.1++t
 pre:∀q p t,(F q (p++t)).1=true∨(F q (p++t)).2.2=22→(F q p).1=true∨(F q p).2.2=22
 ck:∀q p,(F q p).1=true→16≤p.length∧(numAt p 8 8:Int)=q.cookie
def pick (F:RF) (s:Txt):List Rq→Nat→Bool→Option (Nat×Txt)×Bool
 | [],_,b=>(none,b)
 |q::r,i,b=>if (F q s).1=true then (some (i,(F q s).2.1),b||(F q s).2.2==22) else pick F s r (i+1) (b||(F q s).2.2==22)
def accL (F:RF):Nat→List Rq→Txt→Bool×List Rq
 |0,l,_=>(true,l)
 |n+1,l,s=>if s= [] then (true,l) else match pick F s l 0 false with
  |(some (i,r),_)=>accL F n (l.eraseIdx i) r
  |(none,true)=>(true,l)
  |(none,false)=>(false,[])
theorem zbI {F:RF} {s:Txt} :∀ {l:List Rq} {i:Nat} {b:Bool},(∀q∈l,(F q s).1=false)→pick F s l i b=(none,b||l.any fun q=>(F q s).2.2==22)
 | [],i,b,h=>by simp [pick]
 |q::r,i,b,h=>by
  rw [pick,if_neg (by rw [h q List.mem_cons_self];decide),zbI (fun q hq=>h q (List.mem_cons_of_mem _ hq)),List.any_cons,Bool.or_assoc]
theorem zdj {F:RF} {s:Txt} :∀ {l:List Rq} {i k:Nat} {b:Bool} {q:Rq},l[k]?=some q→(F q s).1=true→(∀m,m<k→∀y,l[m]?=some y→(F y s).1=false)→∃c,pick F s l i b=(some (i+k,(F q s).2.1),c)
 | [],i,k,b,q,h,_,_=>by simp at h
 |x::r,i,0,b,q,h,hq,_=>by
  have:x=q:=by simpa using h
  subst this
  rw [pick,if_pos hq]
  exact ⟨_,rfl⟩
 |x::r,i,k+1,b,q,h,hq,hm=>by
  rw [pick,if_neg (by rw [hm 0 (by omega) x rfl];decide)]
  obtain ⟨c,hc⟩:=zdj (i:=i+1) (b:=b||(F x s).2.2==22) (l:=r) (k:=k) (by simpa using h) hq (fun m hmk y hy=>hm (m+1) (by omega) y (by simpa using hy))
  exact ⟨c,by rw [hc];congr 3;omega⟩
theorem zfN (F:RF) (s:Txt):∀l:List Rq,(∀q∈l,(F q s).1=false)∨∃ (k:Nat) (q:Rq),l[k]?=some q∧(F q s).1=true∧∀m,m<k→∀y,l[m]?=some y→(F y s).1=false
 | []=> .inl (by simp)
 | x ::r=>by
  cases hx:(F x s).1 with
  |true=>exact .inr ⟨0,x,rfl,hx,fun m hm=>by omega⟩
  | false=>
   rcases zfN F s r with h|⟨k,q,h1,h2,h3⟩
   ·refine .inl fun q hq=>?_
    rcases List.mem_cons.1 hq with rfl|hq
    ·exact hx
    ·exact h q hq
   ·refine .inr ⟨k+1,q,by simpa using h1,h2,fun m hm y hy=>?_⟩
    cases m with
    |zero=>
     have:x=y:=by simpa using hy
     rw [← this];exact hx
    |succ m=>exact h3 m (by omega) y (by simpa using hy)
theorem zjN {F:RF} (hF:RfOk F) {t:Txt} :∀ (n:Nat) (l:List Rq) (p:Txt),(l.map (·.cookie)).Nodup→(accL F n l (p++t)).1=true→(accL F n l p).1=true
 |0,l,p,_,_=>rfl
 | n + 1,l,p,hd,h=>by
  rw [accL]
  by_cases hp:p= []
  ·rw [if_pos hp]
  rw [if_neg hp]
  rw [accL,if_neg (by simp [hp])] at h
  rcases zfN F (p++t) l with hn|⟨k,q,hk,hq,hlow⟩
  ·-- none is found in the whole
   have hn':∀q∈l,(F q p).1=false:=fun q hq=>by
    cases hc:(F q p).1 with
    |false=>rfl
    |true=>
     have:=(hF.app q p t hc).1
     rw [hn q hq] at this
     cases this
   rw [zbI hn] at h
   rw [zbI hn']
   have ha:(l.any fun q=>(F q (p++t)).2.2==22)=true:=by
    cases hc:l.any fun q=>(F q (p++t)).2.2==22 with
    |true=>rfl
    |false=>
     rw [hc] at h
     cases h
   obtain ⟨q,hq,h22⟩:=List.any_eq_true.1 ha
   have:=hF.pre q p t (.inr (eq_of_beq h22))
   rw [hn' q hq] at this
   have h2:(F q p).2.2=22:=this.resolve_left (by decide)
   have hb:(l.any fun q=>(F q p).2.2==22)=true:=List.any_eq_true.2 ⟨q,hq,by rw [h2];rfl⟩
   rw [hb]
   rfl
  ·obtain ⟨c,hc⟩:=zdj (i:=0) (b:=false) hk hq hlow
   rw [hc,Nat.zero_add] at h
   simp only at h
   have hqm:=List.mem_of_getElem? hk
   cases hqp:(F q p).1 with
   | true=>
    obtain ⟨a1,a2⟩:=hF.app q p t hqp
    obtain ⟨c',hc'⟩:=zdj (F:=F) (s:=p) (i:=0) (b:=false) hk hqp (fun m hm y hy=>by
     cases hy':(F y p).1 with
     |false=>rfl
     |true=>
      have:=(hF.app y p t hy').1
      rw [hlow m hm y hy] at this
      cases this)
    rw [hc',Nat.zero_add]
    simp only
    rw [a2] at h
    refine zjN hF n (l.eraseIdx k) _ ?_ h
    exact hd.sublist ((List.eraseIdx_sublist l k).map _)
   | false=>
    have h22:(F q p).2.2=22:=(hF.pre q p t (.inl hq)).resolve_left (by rw [hqp];decide)
    have hn':∀y∈l,(F y p).1=false:=fun y hy=>by
     cases hyp:(F y p).1 with
     |false=>rfl
     | true=>
      obtain ⟨c1,c2⟩:=hF.ck y p hyp
      obtain ⟨_,c3⟩:=hF.ck q (p++t) hq
      rw [zaG (by omega)] at c3
      have hyq:y.cookie=q.cookie:=by rw [← c2,← c3]
      have:y=q:=by
       obtain ⟨i,hi,rfl⟩:=List.getElem_of_mem hy
       obtain ⟨j,hj,rfl⟩:=List.getElem_of_mem hqm
       have hp:=List.pairwise_iff_getElem.1 hd
       rcases Nat.lt_trichotomy i j with e|e|e
       ·exact absurd hyq (by have h9:=hp i j (by simpa using hi) (by simpa using hj) e;rw [List.getElem_map,List.getElem_map] at h9;exact h9)
       ·subst e;rfl
       ·exact absurd hyq.symm (by have h9:=hp j i (by simpa using hj) (by simpa using hi) e;rw [List.getElem_map,List.getElem_map] at h9;exact h9)
      rw [this,hqp] at hyp
      cases hyp
    rw [zbI hn']
    have hb:(l.any fun q=>(F q p).2.2==22)=true:=List.any_eq_true.2 ⟨q,hqm,by rw [h22];rfl⟩
    rw [hb]
    rfl
end Go.Aw
