/-
 Requests as bytes tell them: req.All; word.Requests.
-/
import Derived.Test.YtgldbfelccddbaaGreatBeg42
import Derived.Test.YtgldbfelccddbaaGreatBeg36
set_option maxRecDepth 100000
set_option maxHeartbeats 2000000
set_option linter.unusedSimpArgs false
set_option linter.unusedVariables false
namespace Go.Aw
open Go Go.Proofs
def allS (L:List (Rq×Txt×Int)) (s:Txt):Txt:=L.foldl (fun _ r=>r.2.1) s
theorem zne (L:List (Rq×Txt×Int)) (r:Rq×Txt×Int) (s:Txt):allS (L++ [r]) s=r.2.1:=by simp [allS]
@[go_sem] theorem allS_nil (s:Txt):allS [] s=s:=rfl
theorem znf (s:Txt) (hs:s.length≤999999):AC 70 [.d (.str s)] (.tup [.d (.sl 6 ((rqAll s).1.map rqD)),.d (.str (rqAll s).2.1),.d (.int .i64 (rqAll s).2.2)]):=by
 obtain ⟨V,hV⟩:∃V,V=rqAll s:=⟨_,rfl⟩
 rw [← hV]
 unfold rqAll at hV
 have hit:=ziM (s.length+1) s (by omega) (by omega)
 have hLl:=ziS (s.length+1) s
 obtain ⟨L,hL⟩:∃L,L=rqR (s.length+1) s:=⟨_,rfl⟩
 rw [← hL] at hV hit hLl
 refine fbod Tryz.func70 Tryz.ntmps70 (fun base=>?_)
 refine' zi fx
 refine (ACall.own (fl':=0) (zpF s) rfl rfl (Nat.zero_le _) (by rintro r h' ⟨rfl,rfl⟩;rfl)).mono ?_
 rintro r h' ⟨h1,⟨rfl,rfl⟩,rfl⟩
 refine' zi fx
 refine zc6 1 0 6 (cs:= [.nils 6]) rfl rfl ?_
 simp only [go_sem,aeq,aeq.aeqF,simprocAttr,fresh,top,List.cons_append,List.nil_append]
 obtain ⟨H,hH⟩:∃H:Nat→Int→AHeap,H=fun k e=> [(51,.arr 6 (((L.take k).map (·.1)).map rqD)),(2,.var [.d (.int .i64 e)]),(1,.var [.osl 51 6 (L.take k).length 0 (L.take k).length]),(0,.var [.d (.str (allS (L.take k) s))])]:=⟨_,rfl⟩
 obtain ⟨I,hI⟩:∃I:List (List AV)→AHeap×Option (List (List AV)),I=fun xs=>([(51,.arr 6 (((L.take xs.length).map (·.1)).map rqD)),(2,.var [.d (.int .i64 0)]),(1,.var [.osl 51 6 (L.take xs.length).length 0 (L.take xs.length).length]),(0,.var [.d (.str (allS (L.take xs.length) s))])],some []):=⟨_,rfl⟩
 obtain ⟨G,hG⟩:∃G:List (List AV)→Prop,G=fun xs=>V=allL (L.drop xs.length) (allS (L.take xs.length) s) ((L.take xs.length).map (·.1)):=⟨_,rfl⟩
 obtain ⟨J,hJ⟩:∃J:Code→AHeap→Option (List (List AV))→Prop,J=fun c h g=>c= .exit 0∧g=some []∧∃ (k:Nat) (r:Rq×Txt×Int),V=((L.take k).map (·.1),allS (L.take k) s,if r.2.2=22 then 0 else r.2.2)∧h= [(100,.var [.d (.int .i64 r.1.flags),.d (.int .i64 r.1.kind),.d (.int .u64 r.1.cookie),.d (.int .u64 r.1.frm),.d (.int .u32 r.1.len),.d (.str r.1.data),.d (.str r.2.1)]),(51,.arr 6 (((L.take k).map (·.1)).map rqD)),(2,.var [.d (.int .i64 r.2.2)]),(1,.var [.osl 51 6 (L.take k).length 0 (L.take k).length]),(0,.var [.d (.str (allS (L.take k) s))])]:=⟨_,rfl⟩
 clear hH H
 refine aw_le ⟨[(10,true,.fn (.func 204) [] [.vp 50 0]),(1,true,.vp 0 0),(5,true,.vp 1 0),(6,true,.vp 2 0)],[(51,.arr 6 []),(50,.var [.d (.str s)]),(2,.var [.d (.int .i64 0)]),(1,.var [.osl 51 6 0 0 0]),(0,.var [.d (.str s)])],some []⟩ le1 ?_
 refine zeJ 100 50 (by decide) G I J (hit) (by simp only [go_sem,aeq,aeq.aeqF,simprocAttr]) rfl (zat rfl) (by simp [cxOf,cxY]) (by first|rfl|(simp [inH,idsH,hsel,AV.ids,AV.idsL,AV.idsR,AObj.ids,hget];done)) (by first|rfl|(simp [AV.ids,AV.idsL];done)) (by rw [hG];first|trivial|rfl|simp) (by rw [hI];simp only [AS.le,leT,leH,zh,AsgK,AV.le,AV.leL,AObj.le,inH,idsT,idsH,AV.ids,AV.idsL,AV.idsR,AObj.ids,lk,hget,go_sem,aeq,aeq.aeqF,simprocAttr]<;>simp [AV.leL,AV.le]) (by rw [hI];simp only [AS.le,leT,leH,zh,AsgK,AV.le,AV.leL,AObj.le,inH,idsT,idsH,AV.ids,AV.idsL,AV.idsR,AObj.ids,lk,hget,go_sem,aeq,aeq.aeqF,simprocAttr]<;>simp) (by rw [hI]<;>rfl) (fun xs=>by rw [hI];rfl) ?_ (by intro x hx;obtain ⟨q,_,rfl⟩:=List.mem_map.1 hx;rfl) (by intro t ht;simp at ht;first|(rcases ht with rfl|rfl<;>simp [cxOf,cxY]<;>done)|(subst ht;simp [cxOf,cxY])) ?_ ?_ ?_
 ·rw [hJ]
  rintro c h3 g3 ⟨rfl,rfl,k,r,_,rfl⟩
  rfl
 ·intro xs x1 hpre hgd l' r1
  obtain ⟨ys,q,zs,rfl,rfl,hz⟩:=zeK hpre
  obtain ⟨k,hk⟩:∃k,k=ys.length:=⟨_,rfl⟩
  have hq:L[k]?=some q:=by rw [hz,hk];simp
  have hkl:k<L.length:=(List.getElem?_eq_some_iff.1 hq).1
  have htk:=zcH hq
  have hdk:=zgl hq
  have hyl:(ys.map rqI).length=k:=by rw [List.length_map,hk]
  have hyl2:(ys.map rqI++ [rqI q]).length=k+1:=by rw [List.length_append,hyl];rfl
  have hkt:(L.take k).length=k:=by rw [List.length_take];omega
  rw [hG] at hgd
  simp only [hyl,hdk] at hgd
  rw [allL] at hgd
  obtain ⟨M,hM⟩:∃M,M=((L.take k).map (·.1)).map rqD:=⟨_,rfl⟩
  have hMl:M.length=k:=by rw [hM,List.length_map,List.length_map,hkt]
  obtain ⟨z,hzz⟩:∃z,z=allS (L.take k) s:=⟨_,rfl⟩
  refine aw_le ⟨[(11,true,.agg [.d (.int .i64 q.1.flags),.d (.int .i64 q.1.kind),.d (.int .u64 q.1.cookie),.d (.int .u64 q.1.frm),.d (.int .u32 q.1.len),.d (.str q.1.data),.d (.str q.2.1)]),(12,true,.d (.int .i64 q.2.2)),(1,true,.vp 0 0),(5,true,.vp 1 0),(6,true,.vp 2 0)],[(51,.arr 6 M),(2,.var [.d (.int .i64 0)]),(1,.var [.osl 51 6 k 0 k]),(0,.var [.d (.str z)])],some []⟩ (by rw [hI];simp only [hyl,hkt,← hM,← hzz,rqI,zaX];simp only [AS.le,leT,leH,zh,AsgK,AV.le,AV.leL,AObj.le,inH,idsT,idsH,AV.ids,AV.idsL,AV.idsR,AObj.ids,lk,hget,go_sem,aeq,aeq.aeqF,simprocAttr]<;>and_intros<;>rfl) ?_
  cases hzq:(q.2.2 !=0) with
  |true=>
   rw [if_pos (by simpa using hzq)] at hgd
   refine' zi hzq
   rw [hJ]
   exact ⟨rfl,rfl,k,q,hgd,by rw [hkt,← hM,← hzz]⟩
  | false=>
   have hkt1:(L.take (k+1)).length=k+1:=by rw [List.length_take];omega
   have hM1:((L.take (k+1)).map (·.1)).map rqD=M++ [rqD q.1]:=by rw [htk,List.map_append,List.map_append,hM];rfl
   have hz1:allS (L.take (k+1)) s=q.2.1:=by rw [htk,zne]
   rw [if_neg (by simpa using hzq)] at hgd
   simp only [rqD] at hM1
   refine' zi (zu hzq hMl)
   ·rw [hG]
    simp only [hyl2]
    rw [hz1,htk,List.map_append]
    exact hgd
   ·rw [hI]
    simp only [hyl2,hkt1,hM1,hz1]
    simp only [AS.le,leT,leH,zh,AsgK,AV.le,AV.leL,AObj.le,inH,idsT,idsH,AV.ids,AV.idsL,AV.idsR,AObj.ids,lk,hget,go_sem,aeq,aeq.aeqF,simprocAttr]<;>and_intros<;>rfl
   ·rw [hI]
    simp [hyl2,hkt1,inH,idsH,AObj.ids,AV.ids,AV.idsL,AV.idsR,hget]
   ·rw [hI]
 ·intro u hgd
  rw [hG] at hgd
  rw [hI]
  simp only [List.length_map,List.take_length,List.drop_length] at hgd ⊢
  rw [allL] at hgd
  refine' zi fx
  rw [hgd,List.take_of_length_le (by simp)]
 ·rw [hJ]
  rintro c w h3 g3 ⟨rfl,rfl,k,r,hv,rfl⟩
  have ht:List.take (L.take k).length (((L.take k).map (·.1)).map rqD)=((L.take k).map (·.1)).map rqD:=List.take_of_length_le (by simp)
  refine' zi fx
  ·rw [hv,ht,if_pos (eq_of_beq hc)]
  ·rw [hv,ht,if_neg (by simpa using hc)]
@[go_sem] noncomputable def zi1:Ent Tryz.prog 70:= .m1 strT znf
theorem zng (x:Xp) (s:Txt) (hl:s.length≤900000) (hx:XpOk x) (hn:x.names.length≤1000) (hnn:∀t∈x.names,t.length≤1000):ACall Tryz.prog 42 0 [.agg [.d (.int .i64 0),.d (.str []),.d (.bool false),.d (.bool false),.d (.sl 1 [])],xpA x,.d (.str s)] [] (fun r _=>r= .tup [ngA (zam ng0 x s).1,.d (.str (zam ng0 x s).2)]):=by
 exact zov ng0 x s (by decide) (by simp only [ng0,List.length_nil];omega) hx.1 hx.2 hn hnn
@[go_sem] noncomputable def zi2:Ent Tryz.prog 42:= .ofL (consL (aggT (consL (zac (.d (.int .i64 0))) (consL (zac (.d (.str []))) (consL (zac (.d (.bool false))) (consL (zac (.d (.bool false))) (consL (zac (.d (.sl 1 []))) nilL))))) (fun p=>p) (fun p=>p) (fun _=>rfl)) (consL xpA_T (consL strT nilL))) (fun ((_,_,_,_,_,_),x,s,_)=>(s.length≤900000)∧(XpOk x)∧(x.names.length≤1000)∧(∀t∈x.names,t.length≤1000)) (fun ((_,_,_,_,_,_),x,s,_)=> .tup [ngA (zam ng0 x s).1,.d (.str (zam ng0 x s).2)]) (fun ((_,_,_,_,_,_),x,s,_) hp=>⟨rfl,zng x s hp.1 hp.2.1 hp.2.2.1 hp.2.2.2⟩)
theorem znh:ACall Tryz.prog 29 0 [] [] (fun r _=>r= .d (.str greetS)):=by
 refine bod Tryz.func29 Tryz.ntmps29 (fun base=>?_)
 refine' zc fx
 rfl
@[go_sem] noncomputable def ze1:Ent Tryz.prog 29:= .ofL nilL (fun _=>True) (fun _=> .d (.str greetS)) (fun _ hp=>⟨rfl,znh⟩)
theorem zk2 (s:Txt):ChkOk (reqRd s).1∧(reqRd s).1.frm<18446744073709551616:=by
 have h0:ChkOk rq0∧rq0.frm<18446744073709551616:=⟨⟨by decide,by decide,by decide,by decide,by decide⟩,by decide⟩
 have h1:∀d:Txt,ChkOk (reqQ s d)∧(reqQ s d).frm<18446744073709551616:=fun d=>by
  have a:=z8 s 4 2
  have c:=z8 s 24 4
  have e:=z8 s 16 8
  exact ⟨⟨by simp only [reqQ];omega,by simp only [reqQ];omega,by simp only [reqQ];omega,by simp only [reqQ];omega,by simp only [reqQ];omega⟩,by simp only [reqQ];omega⟩
 unfold reqRd
 repeat' split
 all_goals first|exact h0|exact h1 _
def WqOk (q:Rq):Prop:=ChkOk q∧q.frm<18446744073709551616
theorem zni:∀ (n:Nat) (s:Txt),∀r∈rqR n s,WqOk r.1
 |0,s,r,hr=>by cases hr
 |n+1,s,r,hr=>by
  rw [rqR] at hr
  split at hr
  ·cases hr
  rcases List.mem_cons.1 hr with rfl|hr
  ·exact zk2 s
  split at hr
  ·cases hr
  ·exact zni n _ r hr
theorem zj7:∀ (L:List (Rq×Txt×Int)) (s:Txt) (l:List Rq),∀q∈(allL L s l).1,q∈l∨∃r∈L,r.1=q
 | [],s,l,q,h=> .inl h
 | r::L,s,l,q,h=>by
  rw [allL] at h
  split at h
  ·exact .inl h
  ·rcases zj7 L _ _ q h with h|⟨r',h1,h2⟩
   ·rcases List.mem_append.1 h with h|h
    ·exact .inl h
    ·exact .inr ⟨r,List.mem_cons_self,(List.mem_singleton.1 h).symm⟩
   ·exact .inr ⟨r',List.mem_cons_of_mem _ h1,h2⟩
theorem ze2 (s:Txt):∀q∈(rqAll s).1,WqOk q:=fun q hq=>by
 rcases zj7 _ _ _ q hq with h|⟨r,h1,rfl⟩
 ·cases h
 ·exact zni _ _ r h1
theorem znj (x:Xp) (sent:Txt):∀q∈(wreqs x sent).1,WqOk q:=fun q hq=>by
 unfold wreqs at hq
 simp only at hq
 split at hq
 ·cases hq
 ·unfold cutLv at hq
  split at hq
  ·exact ze2 _ q (List.mem_of_mem_take hq)
  ·exact ze2 _ q hq
theorem zh0 (x:Xp) (sent:Txt) (hp:XpOk x∧x.names.length≤2∧(∀t∈x.names,t.length≤1000)∧sent.length≤20000):AC 30 [.d (.str sent),xpA x] (.tup [.d (.sl 6 ((wreqs x sent).1.map rqD)),ngA (wreqs x sent).2.1,.d (.str (wreqs x sent).2.2)]):=by
 obtain ⟨hx,hn2,hnn,hs⟩:=hp
 have hfm:=zeV (n:=ng0) hn2 MsOk.nil sent
 simp only [show ng0.buf= [] from rfl,List.length_nil,Nat.zero_add] at hfm
 obtain ⟨V,hV⟩:∃V,V=wreqs x sent:=⟨_,rfl⟩
 rw [← hV]
 unfold wreqs at hV
 obtain ⟨R,hR⟩:∃R,R=zam ng0 x sent:=⟨_,rfl⟩
 have hol:R.2.length≤10000000*(sent.length+2):=by
  have:=zk0 (n:=ng0) (x:=x) (by simp [ctxs];omega) sent
  rw [← hR] at this
  simpa [ng0] using this
 rw [← hR] at hV hfm
 have hgl:greetS.length=18:=rfl
 have hn3:x.names.length≤1000:=by omega
 have hs3:sent.length≤900000:=by omega
 refine fbod Tryz.func30 Tryz.ntmps30 (fun base=>?_)
 refine' zeH (zP 3) hR.symm (zb zi2 <| zb ze1 <| za _)
 all_goals first|omega|skip
 by_cases hp:R.1.phase=2
 rotate_left
 ·have hc:(R.1.phase !=2)=true:=bne_iff_ne.2 hp
  rw [if_pos hp] at hV
  refine' zc hc
  rw [hV]
  rfl
 have hc:(R.1.phase !=2)=false:=by rw [hp];rfl
 rw [if_neg (fun e=>e hp)] at hV
 obtain ⟨Q,hQ⟩:∃Q,Q=rqAll R.1.buf:=⟨_,rfl⟩
 have hQl:=zhQ R.1.buf
 have hQc:=ze2 R.1.buf
 rw [← hQ] at hV hQl hQc
 refine' zeH (zP 6) (zu hc hQ.symm) (zb zi1 <| za _)
 refine aw_le ⟨[(3,true,.vp 0 0),(7,true,.vp 2 0),(8,true,.d (.str (greetS++R.2))),(5,true,.vp 1 0),(9,true,.d (.sl 6 (Q.1.map rqD)))],[(2,.var (ngL R.1)),(1,.var [.d (.int .i64 0),.d (.str []),.d (.bool false),.d (.bool false),.nils 1]),(0,.var (xpL x))],some []⟩ le1 ?_
 refine zaW 0 rfl ?_;simp only [go_sem,aeq,aeq.aeqF,simprocAttr]
 refine zaW 2 rfl ?_;simp only [go_sem,aeq,aeq.aeqF,simprocAttr]
 refine' zc fx
 refine (zbo (zmx Q.1 x R.1 (by omega) hx (fun q h=>(hQc q h).1))).mono ?_
 rintro r h' ⟨rfl,rfl⟩
 obtain ⟨kk,hkk⟩:∃kk,kk=idxP (lvP x R.1) Q.1 0:=⟨_,rfl⟩
 have hb:=zhn (lvP x R.1) Q.1 0
 rw [cutLv] at hV
 rw [← hkk] at hV hb ⊢
 by_cases hk:0≤kk
 ·have hkc:decide (0≤kk)=true:=decide_eq_true hk
  rw [if_pos hk] at hV
  have hkl:kk.toNat≤Q.1.length:=by omega
  refine' zc hkc
  all_goals first|omega|skip
  rw [hV]
  simp only [List.map_take]
 ·have hkc:decide (0≤kk)=false:=decide_eq_false hk
  rw [if_neg hk] at hV
  refine' zc hkc
  rw [hV]
@[go_sem] noncomputable def zfj:Ent Tryz.prog 30:= .m2 strT xpA_T (fun sent x h=>zh0 x sent h)
end Go.Aw
