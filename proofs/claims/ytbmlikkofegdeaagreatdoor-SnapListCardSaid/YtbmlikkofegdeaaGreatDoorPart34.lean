/-
  Parts of the proof: SnapE, SnapF, SnapG (short names; the readable texts lie in the repo, under wip).
-/
import Derived.Test.YtbmlikkofegdeaaGreatDoorPart33
import Derived.Test.YtbmlikkofegdeaaGreatDoorPart17
import Derived.Test.YtbmlikkofegdeaaGreatDoorPart31
set_option maxRecDepth 100000
set_option maxHeartbeats 2000000
set_option linter.unusedSimpArgs false
set_option linter.unusedVariables false
namespace Go.Aw
open Go Go.Proofs
theorem zvm (s:Snp) (id:Int) (h0:0≤id):ACall Tryz.prog 201 0 [snpA s,.dp [.d (.int .u32 id)]] [] (fun r _=>r= .d (.bool (id !=0&&s.id==id))):=by
 have hb:decide (0<id)=(id !=0):=by
  rw [Bool.eq_iff_iff,decide_eq_true_eq,bne_iff_ne]
  omega
 refine fbod Tryz.func201 Tryz.ntmps201 (fun base=>?_)
 cases hz:(id !=0) with
 |true=>
  rw [hz] at hb
  refine' zc hb
 |false=>
  rw [hz] at hb
  refine' zc hb
@[go_sem] noncomputable def zrT:Ent Tryz.prog 201:= .ofL (consL zfK (consL (dpT (consL (intT .u32) nilL) (fun p=>p) (fun p=>p) (fun _=>rfl)) nilL)) (fun (s,(id,_),_)=>0≤id) (fun (s,(id,_),_)=> .d (.bool (id !=0&&s.id==id))) (fun (s,(id,_),_) hp=>⟨rfl,zvm s id hp⟩)
theorem zrU (l:List Snp) (id:Int) (h0:0≤id) (hl:l.length≤9223372036854775807):ACall Tryz.prog 113 0 [.d (.sl 3 (l.map snpD)),.fn (.func 201) [] [.dp [.d (.int .u32 id)]]] [] (fun r _=>r= .d (.int .i64 (idxP (fun s=>id !=0&&s.id==id) l 0))):=by
 refine bod Tryz.func113 Tryz.ntmps113 (fun base=>?_)
 refine' zc fx
 refine zk (fun q:Idst (fun s=>id !=0&&s.id==id) l=>⟨[(0,true,.d (.sl 3 (l.map snpD))),(1,true,.fn (.func 201) [] [.dp [.d (.int .u32 id)]]),(7,true,.d (.int .i64 l.length)),(8,true,.d (.int .i64 q.1))],[],some []⟩) (fun q=>l.length - q.1) ⟨0,Nat.zero_le _,rfl⟩ le1 (fun q=>?_)
 obtain ⟨i,hi,hf⟩:=q
 simp only at hi hf ⊢
 rcases zM snpD l i hi with ⟨⟨m,s,u⟩,hq,hlt,hcmp,hrow,hdr,htk⟩|⟨hend,hcmp⟩
 ·simp only [snpD] at hrow
  have hwi:=zn (i:=i) (by omega)
  refine' walkW (zp hcmp hrow) (za zrT <| zb _)
  ·rw [hf,hdr,idxP,if_pos (by simpa using hc)]
  ·exact ⟨⟨i+1,by omega,by rw [hf,hdr,idxP,if_neg (by simpa using hc)]⟩,lew,by simp;omega⟩
 ·refine' zc hcmp
  rw [hf,hend,List.drop_length]
  rfl
@[go_sem] noncomputable def zm9:Ent Tryz.prog 113:= .ofL (consL (slT 3 snpD zds) (consL (fnT 201 (consL (dpT (consL (intT .u32) nilL) (fun p=>p) (fun p=>p) (fun _=>rfl)) nilL)) nilL)) (fun (l,((id,_),_),_)=>(0≤id)∧(l.length≤9223372036854775807)) (fun (l,((id,_),_),_)=> .d (.int .i64 (idxP (fun s=>id !=0&&s.id==id) l 0))) (fun (l,((id,_),_),_) hp=>⟨rfl,zrU l id hp.1 hp.2⟩)
theorem zlt (a:Ws) (id:Int) (hl:a.L.length≤9223372036854775807) (h0:0≤id):ACall Tryz.prog 137 60 [.vp 21 0,.d (.int .u32 id)] [(21,.var (wkS a))] (fun r h'=>r= .d (.int .i64 (sfind a.L id))∧h'= [(21,.var (wkS a))]):=by
 refine zR (fun i=>decide (i=21)) ?_
 refine bod Tryz.func137 Tryz.ntmps137 (fun base=>?_)
 refine' walkW fx (za zm9 <| zb _)
 all_goals first|omega|skip
 all_goals rfl
def ssn (a:Ws) (id:Int):Snp×Int×Ws:=if a.e≠0 then (snp0,0,a) else if sfind a.L id<0 then (snp0,sfind a.L id, { a with e:=21 }) else (snpAt a.L (sfind a.L id),sfind a.L id,a)
theorem zjW (a:Ws) (id:Int) (hl:a.L.length≤8) (h0:0≤id):ACall Tryz.prog 54 40 [.vp 21 0,.d (.int .u32 id)] [(21,.var (wkS a))] (fun r h'=>r= .tup [snpA (ssn a id).1,.d (.int .i64 (ssn a id).2.1)]∧h'= [(21,.var (wkS (ssn a id).2.2))]):=by
 refine zR (fun i=>decide (i=21)) ?_
 refine bod Tryz.func54 Tryz.ntmps54 (fun base=>?_)
 obtain ⟨B,hB⟩:∃B:Snp→Int→Ws→AHeap,B=fun s k a=> [(43,.var [.d (.int .i64 k)]),(42,.var [.d (.int .u32 s.id),.d (.int .i64 s.l1),.d (.str s.name)]),(41,.var [.d (.int .u32 id)]),(40,.var [.vp 21 0]),(21,.var (wkS a))]:=⟨_,rfl⟩
 obtain ⟨l,hll⟩:∃l:List SStp,l= [⟨136,[],[.vp 40 0,.vp 41 0,.vp 43 0,.vp 42 0]⟩]:=⟨_,rfl⟩
 have hok:∀s k a,SOk 50 l (B s k a):=by intro s k a;rw [hB,hll];exact {}
 have hse:∀s k a e,hset (B s k a) 21 (.var (wkS { a with e:=e }))=B s k { a with e:=e } :=by intro s k a e;rw [hB];rfl
 have hge:∀s k a,hget (B s k a) 21=some (.var (wkS a)):=by intro s k a;rw [hB];rfl
 have fin:Runs 50 l (fun h'=>h'=B (ssn a id).1 (ssn a id).2.1 (ssn a id).2.2) l (B snp0 0 a):=by
  conv=>arg 4;rw [hll]
  by_cases he:a.e=0
  ·have hat:=zfV (l:=a.L) (id:=id)
   obtain ⟨J,hJ⟩:∃J,J=sfind a.L id:=⟨_,rfl⟩
   by_cases hJ0:J<0
   ·have hs:ssn a id=(snp0,J, { a with e:=21 }):=by rw [ssn,if_neg (by simpa using he),if_pos (by rw [← hJ];exact hJ0),hJ]
    refine ⟨hok _ _ _,_,_,hge _ _ _,fun h=>absurd he h,fun _=>(zeg (v:= .d (.int .i64 21)) (H':=B snp0 J a) ?_ (by rw [hB];rfl) (by rw [hB];exact zat rfl)).mono ?_⟩
    ·rw [hB]
     have hb:decide (J<0)=true:=decide_eq_true hJ0
     refine bod Tryz.func136 Tryz.ntmps136 (fun base=>?_)
     refine' zc fx
     refine (zfF (zlt a id (by omega) h0) (by decide) rfl (by simp [AObj.ids,AV.idsL,AV.ids,wkV]) (by simp [AV.idsL,AV.ids])).mono ?_
     rintro r h' ⟨rfl,rfl⟩
     rw [← hJ]
     simp only [go_sem,aeq,aeq.aeqF,simprocAttr,hset]
     refine' zc hb
    rintro v h' ⟨rfl,rfl⟩
    exact ⟨_,_,_,rfl,hge _ _ _,by rw [hse];exact ⟨hok _ _ _,by rw [hs]⟩⟩
   ·rw [← hJ] at hat
    obtain ⟨u,hq,hu,hlt,hJn⟩:=hat (by omega)
    have hs:ssn a id=(u,J,a):=by rw [ssn,if_neg (by simpa using he),if_neg (by rw [← hJ];exact hJ0),← hJ,hu]
    refine ⟨hok _ _ _,_,_,hge _ _ _,fun h=>absurd he h,fun _=>(zeg (v:= .d (.int .i64 0)) (H':=B u J a) ?_ (by rw [hB];rfl) (by rw [hB];exact zat rfl)).mono ?_⟩
    ·rw [hB]
     have hb:decide (J<0)=false:=decide_eq_false hJ0
     have hrow:=zbk (g:=snpD) hq
     simp only [snpD] at hrow
     have hlt2:J<(a.L.length:Int):=by omega
     refine bod Tryz.func136 Tryz.ntmps136 (fun base=>?_)
     refine' zc fx
     refine (zfF (zlt a id (by omega) h0) (by decide) rfl (by simp [AObj.ids,AV.idsL,AV.ids,wkV]) (by simp [AV.idsL,AV.ids])).mono ?_
     rintro r h' ⟨rfl,rfl⟩
     rw [← hJ]
     simp only [go_sem,aeq,aeq.aeqF,simprocAttr,hset]
     refine' zc (zp hb hrow)
     all_goals first|omega|skip
    rintro v h' ⟨rfl,rfl⟩
    refine ⟨_,_,_,rfl,hge _ _ _,?_⟩
    have:({ a with e:=0 } :Ws)=a:=by rw [← he]
    rw [hse,this]
    exact ⟨hok _ _ _,by rw [hs]⟩
  ·exact Runs.skip (hok _ _ _) (hge _ _ _) he (by rw [ssn,if_pos he]) _
 rw [hll,hB] at fin
 refine' zc fx
 refine (zfW (fl:=50) _ (by decide) (by omega) fin (by rintro h' rfl;exact zcJ rfl)).mono ?_
 rintro r h' ⟨rfl,rfl⟩
 refine' zc fx
theorem zfX (a:Ws) (l1 by_:Int):ACall Tryz.prog 42 40 [.vp 21 0,.d (.int .i64 l1),.d (.int .i64 by_)] [(21,.var (wkS a))] (fun r h'=>r= .fn (.func 122) [] [.dp [.vp 21 0],.dp [.d (.int .i64 l1)],.dp [.d (.int .i64 by_)]]∧h'= [(21,.var (wkS a))]):=by
 refine bod Tryz.func42 Tryz.ntmps42 (fun base=>?_)
 refine' zb0 (zaN 1) fx
 refine zaX 40 rfl ?_;simp only [go_sem,aeq,aeq.aeqF,simprocAttr]
 refine zaX 41 rfl ?_;simp only [go_sem,aeq,aeq.aeqF,simprocAttr]
 refine zaX 42 rfl ?_;simp only [go_sem,aeq,aeq.aeqF,simprocAttr]
 refine' zc fx
theorem zog (a:Ws) (l1 by_:Int):ACall Tryz.prog 41 40 [.vp 21 0,.d (.int .i64 l1),.d (.int .i64 by_)] [(21,.var (wkS a))] (fun r h'=>r= .fn (.func 120) [] [.dp [.vp 21 0],.dp [.d (.int .i64 l1)],.dp [.d (.int .i64 by_)]]∧h'= [(21,.var (wkS a))]):=by
 refine bod Tryz.func41 Tryz.ntmps41 (fun base=>?_)
 refine' zb0 (zaN 1) fx
 refine zaX 40 rfl ?_;simp only [go_sem,aeq,aeq.aeqF,simprocAttr]
 refine zaX 41 rfl ?_;simp only [go_sem,aeq,aeq.aeqF,simprocAttr]
 refine zaX 42 rfl ?_;simp only [go_sem,aeq,aeq.aeqF,simprocAttr]
 refine' zc fx
theorem zrV (a:Ws) (i:Int) (s:Snp):ACall Tryz.prog 43 40 [.vp 21 0,.d (.int .i64 i),snpA s] [(21,.var (wkS a))] (fun r h'=>r= .fn (.func 124) [] [.dp [.vp 21 0],.dp [.d (.int .i64 i)],.dp [.d (.int .u32 s.id),.d (.int .i64 s.l1),.d (.str s.name)]]∧h'= [(21,.var (wkS a))]):=by
 refine bod Tryz.func43 Tryz.ntmps43 (fun base=>?_)
 refine' zb0 (zaN 1) fx
 refine zaX 40 rfl ?_;simp only [go_sem,aeq,aeq.aeqF,simprocAttr]
 refine zaX 41 rfl ?_;simp only [go_sem,aeq,aeq.aeqF,simprocAttr]
 refine zaX 42 rfl ?_;simp only [go_sem,aeq,aeq.aeqF,simprocAttr]
 refine' zc fx
def StepW (s:SStp) (a c:Ws):Prop:=∃ (b:Ws) (e:Int),c= { b with e:=e } ∧ACall Tryz.prog s.f 60 (s.fs++s.cs) [(21,.var (wkS a))] (fun r h'=>r= .d (.int .i64 e)∧h'= [(21,.var (wkS b))])∧∀j∈AV.idsL (s.fs++s.cs),j=21
def WI (a:Ws):Prop:=ImgF a.x∧pfit a.q=true
theorem WI.dp {a:Ws} (h:WI a):DP a.x.disk a.q:=⟨h.1.disk,h.2⟩
def wstep (F:Ws→Ws) (a:Ws):Ws:=if a.e≠0 then a else F a
def wrun:List (SStp×(Ws→Ws))→Ws→Ws
 | [],a=>a
 |p::r,a=>wrun r (wstep p.2 a)
def Good (p:SStp×(Ws→Ws)):Prop:=∀a,WI a→a.e=0→WI (p.2 a)∧StepW p.1 a (p.2 a)
theorem Runs.chain {fl:Nat} {all:List SStp} {K:AHeap→Prop} (B:Ws→AHeap) (hok:∀a,SOk fl all (B a)) (hse:∀a b,hset (B a) 21 (.var (wkS b))=B b) (hge:∀a,hget (B a) 21=some (.var (wkS a))):∀ (l:List (SStp×(Ws→Ws))) (a:Ws),WI a→(∀p∈l,Good p)→K (B (wrun l a))→Runs fl all K (l.map (·.1)) (B a)
 | [],a,_,_,hK=>⟨hok a,hK⟩
 | p::r,a,hw,hg,hK=>by
  refine ⟨hok a,a,_,hge a,fun he=>?_,fun he=>?_⟩
  ·rw [wrun,wstep,if_pos he] at hK
   exact Runs.chain B hok hse hge r a hw (fun q hq=>hg q (List.mem_cons_of_mem _ hq)) hK
  ·rw [wrun,wstep,if_neg (by simpa using he)] at hK
   obtain ⟨h1,b,e,hc,h2,h3⟩:=hg p List.mem_cons_self a hw he
   refine (zfF h2 (by decide) (hge a) (by simp [AObj.ids,AV.idsL,AV.ids,wkV]) h3).mono ?_
   rintro v h' ⟨rfl,rfl⟩
   rw [hse]
   refine ⟨b,_,e,rfl,hge b,?_⟩
   rw [hse,← hc]
   exact Runs.chain B hok hse hge r _ h1 (fun q hq=>hg q (List.mem_cons_of_mem _ hq)) hK
def zeo (l1 by_:Int) (a:Ws):Ws:= { a with q:=(share a.x.disk a.q l1 by_).1,e:=(share a.x.disk a.q l1 by_).2 }
def fCopy (l1 k:Int) (a:Ws):Ws:= { a with q:=(ecopy a.x.disk a.q l1 k).1,e:=(ecopy a.x.disk a.q l1 k).2 }
def fPut (i:Int) (s:Snp) (a:Ws):Ws:= { a with q:=(setsnap a.x.disk a.q i s).1,e:=(setsnap a.x.disk a.q i s).2 }
def fAdd (k:Int) (a:Ws):Ws:= { a with q:=(radd a.x.disk a.q k (-1)).1,e:=(radd a.x.disk a.q k (-1)).2 }
def fDone (a:Ws):Ws:= { a with x:=(cdone a.x a.q).1,e:=(cdone a.x a.q).2 }
def zeI (l1 by_:Int):SStp:=⟨122,[],[.dp [.vp 21 0],.dp [.d (.int .i64 l1)],.dp [.d (.int .i64 by_)]]⟩
def cCopy (l1 k:Int):SStp:=⟨120,[],[.dp [.vp 21 0],.dp [.d (.int .i64 l1)],.dp [.d (.int .i64 k)]]⟩
def cPut (i:Int) (s:Snp):SStp:=⟨124,[],[.dp [.vp 21 0],.dp [.d (.int .i64 i)],.dp [.d (.int .u32 s.id),.d (.int .i64 s.l1),.d (.str s.name)]]⟩
def cAdd (s:Snp):SStp:=⟨55,[],[.dp [.vp 21 0],.dp [.d (.int .u32 s.id),.d (.int .i64 s.l1),.d (.str s.name)]]⟩
def cDone:SStp:=⟨46,[.vp 21 0],[]⟩
attribute [go_sem] zeI cCopy cPut cAdd cDone
theorem ze3 (l1 by_:Int):Good (zeI l1 by_,zeo l1 by_):=by
 intro a hw he
 have hdp:=hw.dp
 refine ⟨⟨hw.1,(hdp.share _ _).p⟩, { a with q:=(share a.x.disk a.q l1 by_).1 },_,rfl,?_,by simp [zeI,AV.idsL,AV.ids]⟩
 simp only [zeI,List.nil_append]
 refine zR (fun i=>decide (i<60)) ?_
 refine bod Tryz.func122 Tryz.ntmps122 (fun base=>?_)
 refine' walkW fx (za zdi <| za zcm <| za zcC <| za zbs <| za zcA <| zb _)
theorem zlu (l1 k:Int):Good (cCopy l1 k,fCopy l1 k):=by
 intro a hw he
 have hdp:=hw.dp
 refine ⟨⟨hw.1,(hdp.ecopy _ _).p⟩, { a with q:=(ecopy a.x.disk a.q l1 k).1 },_,rfl,?_,by simp [cCopy,AV.idsL,AV.ids]⟩
 simp only [cCopy,List.nil_append]
 refine zR (fun i=>decide (i<60)) ?_
 refine bod Tryz.func120 Tryz.ntmps120 (fun base=>?_)
 refine' walkW fx (za zdi <| za zcm <| za zcC <| za zbs <| za zcA <| zb _)
theorem zoh (i:Int) (s:Snp) (h0:0≤s.id) (h1:s.id≤4294967295) (hn:s.name.length≤9223372036854775807):Good (cPut i s,fPut i s):=by
 intro a hw he
 have hdp:=hw.dp
 refine ⟨⟨hw.1,(hdp.setsnap _ _).p⟩, { a with q:=(setsnap a.x.disk a.q i s).1 },_,rfl,?_,by simp [cPut,AV.idsL,AV.ids]⟩
 simp only [cPut,List.nil_append]
 refine zR (fun i=>decide (i<60)) ?_
 refine bod Tryz.func124 Tryz.ntmps124 (fun base=>?_)
 refine' walkW fx (za zdi <| za zcm <| za zcC <| za zbs <| za zcA <| zb _)
theorem ztP (s:Snp):Good (cAdd s,fAdd s.l1):=by
 intro a hw he
 have hdp:=hw.dp
 refine ⟨⟨hw.1,(hdp.radd _ _).p⟩, { a with q:=(radd a.x.disk a.q s.l1 (-1)).1 },_,rfl,?_,by simp [cAdd,AV.idsL,AV.ids]⟩
 simp only [cAdd,List.nil_append]
 refine zR (fun i=>decide (i<60)) ?_
 refine bod Tryz.func55 Tryz.ntmps55 (fun base=>?_)
 refine' walkW fx (za zdi <| za zcm <| za zcC <| za zbs <| za zcA <| zb _)
theorem zh5:Good (cDone,fDone):=by
 intro a hw he
 have hiok:=hw.1.ok
 have hdok:=hw.1.disk
 have hq0:=hw.1.seq0
 have hq1:=hw.1.seq1
 have hq2:=hw.2
 refine ⟨⟨hw.1.done _,hw.2⟩, { a with x:=(cdone a.x a.q).1 },_,rfl,?_,by simp [cDone,AV.idsL,AV.ids]⟩
 simp only [cDone,List.append_nil]
 refine zR (fun i=>decide (i<60)) ?_
 refine bod Tryz.func46 Tryz.ntmps46 (fun base=>?_)
 refine' walkW fx (za zdi <| za zcm <| za zcC <| za zbs <| za zcA <| zb _)
open Go Go.Proofs
theorem sbw_L (x:Img) (ch:Bool):(sbw x ch).L.length≤8:=by
 unfold sbw
 split
 ·exact Nat.zero_le _
 ·exact zdw _
theorem zup {x:Img} (h:ImgF x) (ch:Bool):WI (sbw x ch):=by
 unfold sbw
 split
 ·exact ⟨h,zcw⟩
 ·exact ⟨h,zcw⟩
theorem zuq {x:Img} (h:ImgF x) (ch:Bool) (id:Int):WI (ssn (sbw x ch) id).2.2:=by
 have:=zup h ch
 unfold ssn
 split
 ·exact this
 split
 ·exact this
 ·exact this
theorem zvn {x:Img} {id:Int} :zaH x id=((wrun [(zeI (ssn (sbw x true) id).1.l1 (-1),zeo (ssn (sbw x true) id).1.l1 (-1)),(cAdd (ssn (sbw x true) id).1,fAdd (ssn (sbw x true) id).1.l1),(cPut (ssn (sbw x true) id).2.1 snp0,fPut (ssn (sbw x true) id).2.1 snp0),(cDone,fDone)] (ssn (sbw x true) id).2.2).x,(wrun [(zeI (ssn (sbw x true) id).1.l1 (-1),zeo (ssn (sbw x true) id).1.l1 (-1)),(cAdd (ssn (sbw x true) id).1,fAdd (ssn (sbw x true) id).1.l1),(cPut (ssn (sbw x true) id).2.1 snp0,fPut (ssn (sbw x true) id).2.1 snp0),(cDone,fDone)] (ssn (sbw x true) id).2.2).e):=by
 have hsk:∀ (l:List (SStp×(Ws→Ws))) (a:Ws),a.e≠0→wrun l a=a:=by
  intro l
  induction l with
  |nil=>intro a _;rfl
  |cons p r ih=>intro a he;rw [wrun,wstep,if_pos he];exact ih a he
 unfold zaH
 cases hb:x.broken with
 |true=>
  have h1:sbw x true=⟨x,⟨0,0⟩,[],p0,24⟩:=by rw [sbw,hb];rfl
  have h2:(ssn (sbw x true) id)=(snp0,0,⟨x,⟨0,0⟩,[],p0,24⟩):=by rw [h1,ssn,if_pos (by show (24:Int)≠0;decide)]
  rw [h2,if_pos rfl,hsk _ _ (by show (24:Int)≠0;decide)]
 | false=>
  have h1:sbw x true=⟨x,(sbeg x.disk).1,(sbeg x.disk).2.1,p0,(sbeg x.disk).2.2⟩:=by rw [sbw,hb];rfl
  rw [h1,if_neg (by decide)]
  by_cases he:(sbeg x.disk).2.2=0
  ·rw [if_neg (by simpa using he)]
   by_cases hj:sfind (sbeg x.disk).2.1 id<0
   ·rw [if_pos hj,ssn,if_neg (by simpa using he),if_pos hj,hsk _ _ (by show (21:Int)≠0;decide)]
   ·rw [if_neg hj,ssn,if_neg (by simpa using he),if_neg hj]
    simp only [wrun,wstep,zeo,fAdd,fPut,fDone,sdelA,sdelB,sdelC,he,ne_eq,not_true_eq_false,if_false]
    repeat' split
    all_goals simp_all
  ·rw [if_pos he,ssn,if_pos he,hsk _ _ he]
theorem zvo (x:Img) (id:Int) (hp:ImgF x∧0≤id∧id≤4294967295):AC 12 [imgA x,.d (.int .u32 id)] (.tup [imgA (zaH x id).1,.d (.int .i64 (zaH x id).2)]):=by
 obtain ⟨h,h0,h1⟩:=hp
 refine fbod Tryz.func12 Tryz.ntmps12 (fun base=>?_)
 refine' zc fx
 refine (ACall.own (fl':=0) (zeH x true h) rfl rfl (by omega) (by rintro r h' ⟨rfl,rfl⟩;rfl)).mono ?_
 rintro r h' ⟨h1',⟨rfl,rfl⟩,rfl⟩
 have hLl:=sbw_L x true
 obtain ⟨a,ha⟩:∃a,a=sbw x true:=⟨_,rfl⟩
 rw [← ha] at hLl ⊢
 simp only [go_sem,aeq,aeq.aeqF,simprocAttr,List.singleton_append]
 refine' zc fx
 refine (zfF (zjW a id hLl h0) (by decide) rfl (by simp [AObj.ids,AV.idsL,AV.ids,wkV]) (by simp [AV.idsL,AV.ids])).mono ?_
 rintro r h' ⟨rfl,rfl⟩
 obtain ⟨s,hs⟩:∃s,s=ssn a id:=⟨_,rfl⟩
 rw [← hs]
 simp only [go_sem,aeq,aeq.aeqF,simprocAttr,hset]
 refine' zb0 (zaN 3) fx
 refine zaX 22 rfl ?_;simp only [go_sem,aeq,aeq.aeqF,simprocAttr]
 refine zaX 23 rfl ?_;simp only [go_sem,aeq,aeq.aeqF,simprocAttr]
 refine' zdz (ownsL [0,2000042,2000043]) fx
 refine ⟨21,40,.var (wkS s.2.2),_,rfl,by decide,by simp [AObj.ids,AV.idsL,AV.ids,wkV],by simp [AV.idsL,AV.ids],zfX s.2.2 s.1.l1 (-1),?_⟩
 refine ⟨21,40,.var (wkS s.2.2),_,rfl,by decide,by simp [AObj.ids,AV.idsL,AV.ids,wkV],by simp [AV.idsL,AV.ids],zrV s.2.2 s.2.1 snp0,?_⟩
 simp only [go_sem,aeq,aeq.aeqF,simprocAttr]
 refine' zdz (ownsL [0,2000042,2000043]) fx
 have hWI:WI s.2.2:=by rw [hs,ha];exact zuq h _ _
 have heq:=zvn (x:=x) (id:=id)
 rw [← ha,← hs] at heq
 obtain ⟨W,hW⟩:∃W,W=wrun [(zeI s.1.l1 (-1),zeo s.1.l1 (-1)),(cAdd s.1,fAdd s.1.l1),(cPut s.2.1 snp0,fPut s.2.1 snp0),(cDone,fDone)] s.2.2:=⟨_,rfl⟩
 rw [← hW] at heq
 refine (zfW (fl:=50) (K:=fun h'=>h'= [(21,.var (wkS W)),(1,.var img0),(0,.var (imgV x))]) ([(zeI s.1.l1 (-1),zeo s.1.l1 (-1)),(cAdd s.1,fAdd s.1.l1),(cPut s.2.1 snp0,fPut s.2.1 snp0),(cDone,fDone)].map (·.1)) (by simp) (Nat.zero_le _) (Runs.chain (fun a=> [(21,.var (wkS a)),(1,.var img0),(0,.var (imgV x))]) (fun a=> {}) (fun _ _=>rfl) (fun _=>rfl) _ _ hWI ?_ (by rw [hW])) (by rintro h' rfl;exact zcJ rfl)).mono ?_
 ·intro p hp
  simp only [List.mem_cons,List.not_mem_nil,or_false] at hp
  rcases hp with rfl|rfl|rfl|rfl
  ·exact ze3 _ _
  ·exact ztP _
  ·exact zoh _ _ (by decide) (by decide) (by decide)
  ·exact zh5
 rintro r h' ⟨rfl,rfl⟩
 simp only [go_sem,aeq,aeq.aeqF,simprocAttr]
 refine' zc fx
 rw [heq]
@[go_sem] noncomputable def zaC:Ent Tryz.prog 12:= .m2 zbD (intT .u32) zvo
open Go Go.Proofs
theorem zur {x:Img} {R:Root} {L:List Snp} {q:Plan} {e id:Int} (he:e=0):ssn ⟨x,R,L,q,e⟩ id=if sfind L id<0 then (snp0,sfind L id,⟨x,R,L,q,21⟩) else (snpAt L (sfind L id),sfind L id,⟨x,R,L,q,e⟩):=by rw [ssn,if_neg (by simpa using he)]
theorem zrW {a:Ws} {id:Int} (he:a.e≠0):ssn a id=(snp0,0,a):=by rw [ssn,if_pos he]
def srd (x:Img) (guest:Int) (s:Snp×Int×Ws):Txt×Int:=if s.2.2.e≠0 then ([],s.2.2.e) else if guest<0∨x.geom.guest≤guest then ([],10) else cread x.disk s.1.l1 guest
theorem zwd {x:Img} {id guest:Int} :sread x id guest=srd x guest (ssn (sbw x false) id):=by
 have h1:sbw x false=⟨x,(sbeg x.disk).1,(sbeg x.disk).2.1,p0,(sbeg x.disk).2.2⟩:=by rw [sbw];rfl
 rw [h1]
 by_cases he:(sbeg x.disk).2.2=0
 ·rw [zur he,sread,if_neg (by simpa using he)]
  by_cases hj:sfind (sbeg x.disk).2.1 id<0
  ·rw [if_pos hj,if_pos hj,srd,if_pos (by show (21:Int)≠0;decide)]
  ·rw [if_neg hj,if_neg hj]
   simp only [srd,he,ne_eq,not_true_eq_false,if_false]
 ·rw [zrW he,sread,if_pos he,srd,if_pos he]
theorem zrX (x:Img) (id guest:Int) (hp:ImgF x∧0≤id∧id≤4294967295):AC 16 [imgA x,.d (.int .u32 id),.d (.int .i64 guest)] (.tup [.d (.str (sread x id guest).1),.d (.int .i64 (sread x id guest).2)]):=by
 obtain ⟨h,h0,h1⟩:=hp
 have hdf:=h.disk
 refine fbod Tryz.func16 Tryz.ntmps16 (fun base=>?_)
 refine' zc fx
 refine (ACall.own (fl':=0) (zeH x false h) rfl rfl (by omega) (by rintro r h' ⟨rfl,rfl⟩;rfl)).mono ?_
 rintro r h' ⟨h1',⟨rfl,rfl⟩,rfl⟩
 have hLl:=sbw_L x false
 obtain ⟨a,ha⟩:∃a,a=sbw x false:=⟨_,rfl⟩
 rw [← ha] at hLl ⊢
 simp only [go_sem,aeq,aeq.aeqF,simprocAttr,List.singleton_append]
 refine' zc fx
 refine (zfF (zjW a id hLl h0) (by decide) rfl (by simp [AObj.ids,AV.idsL,AV.ids,wkV]) (by simp [AV.idsL,AV.ids])).mono ?_
 rintro r h' ⟨rfl,rfl⟩
 obtain ⟨s,hs⟩:∃s,s=ssn a id:=⟨_,rfl⟩
 rw [← hs]
 simp only [go_sem,aeq,aeq.aeqF,simprocAttr,hset]
 refine' zc fx
 have heq:=zwd (x:=x) (id:=id) (guest:=guest)
 rw [← ha,← hs] at heq
 obtain ⟨B,hB⟩:∃B:Txt→Int→Ws→AHeap,B=fun t k a=> [(22,.var [.d (.int .u32 s.1.id),.d (.int .i64 s.1.l1),.d (.str s.1.name)]),(21,.var (wkS a)),(3,.var [.d (.int .i64 k)]),(2,.var [.d (.str t)]),(1,.var [.d (.int .i64 guest)]),(0,.var (imgV x))]:=⟨_,rfl⟩
 obtain ⟨l,hll⟩:∃l:List SStp,l= [⟨61,[],[.vp 1 0,.vp 0 0,.vp 22 0,.vp 2 0,.vp 3 0]⟩]:=⟨_,rfl⟩
 have hok:∀t k a,SOk 50 l (B t k a):=by intro t k a;rw [hB,hll];exact {}
 have hse:∀t k a e,hset (B t k a) 21 (.var (wkS { a with e:=e }))=B t k { a with e:=e } :=by intro t k a e;rw [hB];rfl
 have hge:∀t k a,hget (B t k a) 21=some (.var (wkS a)):=by intro t k a;rw [hB];rfl
 obtain ⟨Z,hZ⟩:∃Z,Z=srd x guest s:=⟨_,rfl⟩
 rw [← hZ] at heq
 have fin:Runs 50 l (fun h'=>∃k,h'=B Z.1 k { s.2.2 with e:=Z.2 }) l (B [] 0 s.2.2):=by
  conv=>arg 4;rw [hll]
  by_cases he:s.2.2.e=0
  ·rw [srd,if_neg (by simpa using he)] at hZ
   cases hb:(decide (guest<0)||decide (x.geom.guest≤guest)) with
   | true=>
    rw [if_pos (by simpa using hb)] at hZ
    refine ⟨hok _ _ _,_,_,hge _ _ _,fun h=>absurd he h,fun _=>(zeg (v:= .d (.int .i64 10)) (H':=B [] 0 s.2.2) ?_ rfl (by rw [hB];exact zat rfl)).mono ?_⟩
    ·rw [hB]
     refine bod Tryz.func61 Tryz.ntmps61 (fun base=>?_)
     refine' zc hb
    rintro v h' ⟨rfl,rfl⟩
    refine ⟨_,_,_,rfl,hge _ _ _,?_⟩
    rw [hse]
    exact ⟨hok _ _ _,0,by rw [hZ]⟩
   | false=>
    rw [if_neg (by simpa using hb)] at hZ
    refine ⟨hok _ _ _,_,_,hge _ _ _,fun h=>absurd he h,fun _=>(zeg (v:= .d (.int .i64 Z.2)) (H':=B Z.1 Z.2 s.2.2) ?_ (by rw [hB];rfl) (by rw [hB];exact zat rfl)).mono ?_⟩
    ·rw [hB]
     refine bod Tryz.func61 Tryz.ntmps61 (fun base=>?_)
     refine' walkW (zp hb hZ.symm) (za zdv <| za zdu <| zb _)
    rintro v h' ⟨rfl,rfl⟩
    refine ⟨_,_,_,rfl,hge _ _ _,?_⟩
    rw [hse]
    exact ⟨hok _ _ _,Z.2,rfl⟩
  ·rw [srd,if_pos he] at hZ
   exact Runs.skip (hok _ _ _) (hge _ _ _) he ⟨0,by rw [hZ]⟩ _
 rw [hll,hB] at fin
 refine (zfW (fl:=50) _ (by decide) (Nat.zero_le _) fin (by rintro h' ⟨k,rfl⟩;exact zcJ rfl)).mono ?_
 rintro r h' ⟨rfl,k,rfl⟩
 simp only [go_sem,aeq,aeq.aeqF,simprocAttr]
 refine' zc fx
 rw [heq]
@[go_sem] noncomputable def zfr:Ent Tryz.prog 16:= .m3 zbD (intT .u32) (intT .i64) zrX
theorem zrY:∀ (l:List (SStp×(Ws→Ws))) (a:Ws),WI a→(∀p∈l,Good p)→WI (wrun l a)
 | [],_,h,_=>h
 | p::r,a,h,hg=>by
  rw [wrun]
  refine zrY r _ ?_ (fun q hq=>hg q (List.mem_cons_of_mem _ hq))
  rw [wstep]
  split
  ·exact h
  ·rename_i he
   exact (hg p List.mem_cons_self a h (by simpa using he)).1
theorem zdj:∀ (l:List (SStp×(Ws→Ws))) (a:Ws),a.e≠0→wrun l a=a
 | [],_,_=>rfl
 |p::r,a,he=>by rw [wrun,wstep,if_pos he];exact zdj r a he
def srevL (s:Snp×Int×Ws):List (SStp×(Ws→Ws)):= [(zeI s.1.l1 1,zeo s.1.l1 1),(zeI s.2.2.R.l1 (-1),zeo s.2.2.R.l1 (-1)),(cCopy s.1.l1 s.2.2.R.l1,fCopy s.1.l1 s.2.2.R.l1),(cDone,fDone)]
theorem zvp {x:Img} {id:Int} :zcI x id=if (wrun (srevL (ssn (sbw x true) id)) (ssn (sbw x true) id).2.2).e≠0 then ((wrun (srevL (ssn (sbw x true) id)) (ssn (sbw x true) id).2.2).x,(wrun (srevL (ssn (sbw x true) id)) (ssn (sbw x true) id).2.2).e) else (zdQ (wrun (srevL (ssn (sbw x true) id)) (ssn (sbw x true) id).2.2).x 64,0):=by
 unfold zcI
 cases hb:x.broken with
 |true=>
  have h1:sbw x true=⟨x,⟨0,0⟩,[],p0,24⟩:=by rw [sbw,hb];rfl
  rw [h1,zrW (by show (24:Int)≠0;decide),if_pos rfl,zdj _ _ (by show (24:Int)≠0;decide),if_pos (by show (24:Int)≠0;decide)]
 | false=>
  have h1:sbw x true=⟨x,(sbeg x.disk).1,(sbeg x.disk).2.1,p0,(sbeg x.disk).2.2⟩:=by rw [sbw,hb];rfl
  rw [h1,if_neg (by decide)]
  by_cases he:(sbeg x.disk).2.2=0
  ·rw [if_neg (by simpa using he),zur he]
   by_cases hj:sfind (sbeg x.disk).2.1 id<0
   ·rw [if_pos hj,if_pos hj,zdj _ _ (by show (21:Int)≠0;decide),if_pos (by show (21:Int)≠0;decide)]
   ·rw [if_neg hj,if_neg hj]
    simp only [srevL,wrun,wstep,zeo,fCopy,fDone,srev0,srevA,srevB,srevC,he,ne_eq,not_true_eq_false,if_false]
    repeat' split
    all_goals simp_all
  ·rw [if_pos he,zrW he,zdj _ _ he,if_pos he]
theorem zpE {x:Img} {p:Plan} :(cdone x p).1.maps=x.maps:=by
 unfold cdone
 split<;>rfl
theorem zrZ {s:Snp×Int×Ws} :∀a,(wrun (srevL s) a).x.maps=a.x.maps:=by
 intro a
 simp only [srevL,wrun,wstep,zeo,fCopy,fDone]
 repeat' split
 all_goals first|rfl|exact zpE
theorem ssn_x {x:Img} {ch:Bool} {id:Int} :(ssn (sbw x ch) id).2.2.x=x:=by
 unfold ssn sbw
 repeat' split
 all_goals rfl
theorem zgx (x:Img):∀n,(zdQ x n).maps.length=x.maps.length
 |0=>rfl
 |n+1=>by
  rw [zdQ,cmark]
  split
  ·exact zgx x n
  ·simpa using zgx x n
theorem ztQ (x:Img) (id:Int) (hp:ImgF x∧0≤id∧id≤4294967295∧x.maps.length≤5000):AC 14 [imgA x,.d (.int .u32 id)] (.tup [imgA (zcI x id).1,.d (.int .i64 (zcI x id).2)]):=by
 obtain ⟨h,h0,h1,hm⟩:=hp
 refine fbod Tryz.func14 Tryz.ntmps14 (fun base=>?_)
 refine' zc fx
 refine (ACall.own (fl':=0) (zeH x true h) rfl rfl (by omega) (by rintro r h' ⟨rfl,rfl⟩;rfl)).mono ?_
 rintro r h' ⟨h1',⟨rfl,rfl⟩,rfl⟩
 have hLl:=sbw_L x true
 obtain ⟨a,ha⟩:∃a,a=sbw x true:=⟨_,rfl⟩
 rw [← ha] at hLl ⊢
 simp only [go_sem,aeq,aeq.aeqF,simprocAttr,List.singleton_append]
 refine' zc fx
 refine (zfF (zjW a id hLl h0) (by decide) rfl (by simp [AObj.ids,AV.idsL,AV.ids,wkV]) (by simp [AV.idsL,AV.ids])).mono ?_
 rintro r h' ⟨rfl,rfl⟩
 obtain ⟨s,hs⟩:∃s,s=ssn a id:=⟨_,rfl⟩
 rw [← hs]
 simp only [go_sem,aeq,aeq.aeqF,simprocAttr,hset]
 refine' zb0 (zaN 3) fx
 refine' zdz (ownsL [0,2000042,2000041]) fx
 refine ⟨21,40,.var (wkS s.2.2),_,rfl,by decide,by simp [AObj.ids,AV.idsL,AV.ids,wkV],by simp [AV.idsL,AV.ids],zfX s.2.2 s.1.l1 1,?_⟩
 refine ⟨21,40,.var (wkS s.2.2),_,rfl,by decide,by simp [AObj.ids,AV.idsL,AV.ids,wkV],by simp [AV.idsL,AV.ids],zfX s.2.2 s.2.2.R.l1 (-1),?_⟩
 refine ⟨21,40,.var (wkS s.2.2),_,rfl,by decide,by simp [AObj.ids,AV.idsL,AV.ids,wkV],by simp [AV.idsL,AV.ids],zog s.2.2 s.1.l1 s.2.2.R.l1,?_⟩
 simp only [go_sem,aeq,aeq.aeqF,simprocAttr]
 refine' zdz (ownsL [0,2000042,2000041]) fx
 have hWI:WI s.2.2:=by rw [hs,ha];exact zuq h _ _
 have heq:=zvp (x:=x) (id:=id)
 rw [← ha,← hs] at heq
 have hgood:∀p∈srevL s,Good p:=by
  intro p hp
  simp only [srevL,List.mem_cons,List.not_mem_nil,or_false] at hp
  rcases hp with rfl|rfl|rfl|rfl
  ·exact ze3 _ _
  ·exact ze3 _ _
  ·exact zlu _ _
  ·exact zh5
 have hWW:=zrY _ _ hWI hgood
 obtain ⟨W,hW⟩:∃W,W=wrun (srevL s) s.2.2:=⟨_,rfl⟩
 have hml0:=zrZ (s:=s) s.2.2
 rw [← hW] at heq hWW hml0
 rw [hs,ha,ssn_x] at hml0
 refine (zfW (fl:=50) (K:=fun h'=>h'= [(22,.var [.d (.int .u32 s.1.id),.d (.int .i64 s.1.l1),.d (.str s.1.name)]),(21,.var (wkS W)),(1,.var img0),(0,.var (imgV x))]) ((srevL s).map (·.1)) (by simp [srevL]) (Nat.zero_le _) (Runs.chain (fun a=> [(22,.var [.d (.int .u32 s.1.id),.d (.int .i64 s.1.l1),.d (.str s.1.name)]),(21,.var (wkS a)),(1,.var img0),(0,.var (imgV x))]) (fun a=> { is:=by simp only [srevL,inH,AV.ids,AV.idsL,AV.idsR,List.map_cons,List.map_nil,stR,hget,go_sem,simprocAttr] }) (fun _ _=>rfl) (fun _=>rfl) _ _ hWI hgood (by rw [hW])) (by rintro h' rfl;exact zcJ rfl)).mono ?_
 rintro r h' ⟨rfl,rfl⟩
 simp only [go_sem,aeq,aeq.aeqF,simprocAttr]
 refine' zc fx
 refine zk (fun q: { k:Nat // k≤64∧(W.e≠0→k=0) } =>⟨[(4,true,.vp 1 0),(6,true,.vp 21 0),(9,true,.d (.int .i64 q.1))],[(21,.var (wkS { W with x:=zdQ W.x q.1 })),(1,.var img0)],some []⟩) (fun q=>64 - q.1) ⟨0,Nat.zero_le _,fun _=>rfl⟩ le1 (fun q=>?_)
 obtain ⟨k,hk,hk0⟩:=q
 simp only at hk hk0 ⊢
 have hmi:=hWW.1.marks k
 have hmo:=hmi.ok
 have hml:(zdQ W.x k).maps.length≤5000:=by rw [zgx,hml0];exact hm
 by_cases he:W.e=0
 ·have hb:(W.e==0)=true:=by simpa using he
  rw [if_neg (by simpa using he)] at heq
  rcases Nat.lt_or_ge k 64 with hlt|hge
  ·have hcmp:decide ((k:Int)<64)=true:=decide_eq_true (by omega)
   have hwi:=zn (i:=k) (by omega)
   have hms:zdQ W.x (k+1)=cmark (zdQ W.x k) k:=rfl
   refine' walkW (zp hcmp hb) (za zdv <| za zdu <| zb _)
   exact ⟨⟨k+1,by omega,fun h=>absurd he h⟩,by simp only [hms];simp only [AS.le,leT,leH,zj,AsgK,AV.le,AV.leL,AObj.le,inH,idsT,idsH,AV.ids,AV.idsL,AV.idsR,AObj.ids,lk,hget,go_sem,aeq,aeq.aeqF,simprocAttr,hwi]<;>and_intros<;>rfl,by simp;omega⟩
  ·have hcmp:decide ((k:Int)<64)=false:=decide_eq_false (by omega)
   obtain rfl:k=64:=by omega
   refine' walkW hcmp (za zdv <| za zdu <| zb _)
   rw [heq,he]
 ·have hb:(W.e==0)=false:=by simpa using he
  obtain rfl:=hk0 he
  rw [if_pos he] at heq
  refine' walkW hb (za zdv <| za zdu <| zb _)
  rw [heq]
  rfl
@[go_sem] noncomputable def zgy:Ent Tryz.prog 14:= .m2 zbD (intT .u32) ztQ
end Go.Aw
