/-
  Parts of the proof: SnapH, SnapI, WipeA, SmallA, ViewC, AuditB, AuditC, AuditD, AuditE, AuditF (short names; the readable texts lie in the repo, under wip).
-/
import Derived.Test.YtbmlikkofegdeaaGreatDoorPart34
import Derived.Test.YtbmlikkofegdeaaGreatDoorPart17
import Derived.Test.YtbmlikkofegdeaaGreatDoorPart32
import Derived.Test.YtbmlikkofegdeaaGreatDoorPart31
import Derived.Test.YtbmlikkofegdeaaGreatDoorPart28
import Derived.Test.YtbmlikkofegdeaaGreatDoorPart29
import Derived.Test.YtbmlikkofegdeaaGreatDoorPart33
set_option maxRecDepth 100000
set_option maxHeartbeats 2000000
set_option linter.unusedSimpArgs false
set_option linter.unusedVariables false
namespace Go.Aw
open Go Go.Proofs
theorem ztR (p:Plan) (t:Root) (hp:pfit p=true∧0≤t.next∧t.next≤4294967295):AC 45 [planA p,rootA t] (.tup [planA (zav p t).1,.d (.int .i64 (zav p t).2)]):=by
 obtain ⟨hp,h2,h3⟩:=hp
 refine fbod Tryz.func45 Tryz.ntmps45 (fun base=>?_)
 obtain ⟨hl,h24,h64⟩:=zay hp
 have hpo:PlanOk p:=⟨by omega,by omega⟩
 by_cases hk:zH t.l1=true
 ·obtain ⟨hk0,hk1⟩:=hostOk_iff.1 hk
  refine' walkW hk (za zbW <| za zdr <| za zbI <| zb _)
  rw [zav,if_neg (by rw [hk];exact fun h=>by cases h)]
 ·have hk:zH t.l1=false:=by simpa using hk
  refine' walkW hk (za zbW <| za zdr <| za zbI <| zb _)
  rw [zav,if_pos hk]
@[go_sem] noncomputable def zi5:Ent Tryz.prog 45:= .m2 zw zhO ztR
theorem zvq (s:Snp) (_:True):AC 116 [snpA s] (.d (.bool (s.id==0))):=by
 refine fbod Tryz.func116 Tryz.ntmps116 (fun base=>?_)
 refine' zc fx
@[go_sem] noncomputable def zr0:Ent Tryz.prog 116:= .m1 zfK zvq
theorem zvr (s:Snp) (n:Txt):ACall Tryz.prog 118 0 [snpA s,.dp [.d (.str n)]] [] (fun r _=>r= .d (.bool (decide (0<s.id)&&s.name==n))):=by
 refine fbod Tryz.func118 Tryz.ntmps118 (fun base=>?_)
 cases hz:decide (0<s.id) with
 |true=>refine' zc hz
 |false=>refine' zc hz
@[go_sem] noncomputable def zr1:Ent Tryz.prog 118:= .ofL (consL zfK (consL (dpT (consL strT nilL) (fun p=>p) (fun p=>p) (fun _=>rfl)) nilL)) (fun (s,(n,_),_)=>True) (fun (s,(n,_),_)=> .d (.bool (decide (0<s.id)&&s.name==n))) (fun (s,(n,_),_) hp=>⟨rfl,zvr s n⟩)
theorem zr2 (l:List Snp) (hl:l.length≤9223372036854775807):ACall Tryz.prog 113 0 [.d (.sl 3 (l.map snpD)),.fn (.func 116) [] []] [] (fun r _=>r= .d (.int .i64 (idxP (fun s=>s.id==0) l 0))):=by
 refine bod Tryz.func113 Tryz.ntmps113 (fun base=>?_)
 refine' zc fx
 refine zk (fun q:Idst (fun s=>s.id==0) l=>⟨[(0,true,.d (.sl 3 (l.map snpD))),(1,true,.fn (.func 116) [] []),(7,true,.d (.int .i64 l.length)),(8,true,.d (.int .i64 q.1))],[],some []⟩) (fun q=>l.length - q.1) ⟨0,Nat.zero_le _,rfl⟩ le1 (fun q=>?_)
 obtain ⟨i,hi,hf⟩:=q
 simp only at hi hf ⊢
 rcases zM snpD l i hi with ⟨⟨m,s,u⟩,hq,hlt,hcmp,hrow,hdr,htk⟩|⟨hend,hcmp⟩
 ·simp only [snpD] at hrow
  have hwi:=zn (i:=i) (by omega)
  refine' walkW (zp hcmp hrow) (za zr0 <| zb _)
  ·rw [hf,hdr,idxP,if_pos (by simpa using hc)]
  ·exact ⟨⟨i+1,by omega,by rw [hf,hdr,idxP,if_neg (by simpa using hc)]⟩,lew,by simp;omega⟩
 ·refine' zc hcmp
  rw [hf,hend,List.drop_length]
  rfl
@[go_sem] noncomputable def zna:Ent Tryz.prog 113:= .ofL (consL (slT 3 snpD zds) (consL (fnT 116 nilL) nilL)) (fun (l,_,_)=>l.length≤9223372036854775807) (fun (l,_,_)=> .d (.int .i64 (idxP (fun s=>s.id==0) l 0))) (fun (l,_,_) hp=>⟨rfl,zr2 l hp⟩)
theorem zpF (l:List Snp) (n:Txt) (hl:l.length≤9223372036854775807):ACall Tryz.prog 113 0 [.d (.sl 3 (l.map snpD)),.fn (.func 118) [] [.dp [.d (.str n)]]] [] (fun r _=>r= .d (.int .i64 (idxP (fun s=>decide (0<s.id)&&s.name==n) l 0))):=by
 refine bod Tryz.func113 Tryz.ntmps113 (fun base=>?_)
 refine' zc fx
 refine zk (fun q:Idst (fun s=>decide (0<s.id)&&s.name==n) l=>⟨[(0,true,.d (.sl 3 (l.map snpD))),(1,true,.fn (.func 118) [] [.dp [.d (.str n)]]),(7,true,.d (.int .i64 l.length)),(8,true,.d (.int .i64 q.1))],[],some []⟩) (fun q=>l.length - q.1) ⟨0,Nat.zero_le _,rfl⟩ le1 (fun q=>?_)
 obtain ⟨i,hi,hf⟩:=q
 simp only at hi hf ⊢
 rcases zM snpD l i hi with ⟨⟨m,s,u⟩,hq,hlt,hcmp,hrow,hdr,htk⟩|⟨hend,hcmp⟩
 ·simp only [snpD] at hrow
  have hwi:=zn (i:=i) (by omega)
  refine' walkW (zp hcmp hrow) (za zr1 <| zb _)
  ·rw [hf,hdr,idxP,if_pos (by simpa using hc)]
  ·exact ⟨⟨i+1,by omega,by rw [hf,hdr,idxP,if_neg (by simpa using hc)]⟩,lew,by simp;omega⟩
 ·refine' zc hcmp
  rw [hf,hend,List.drop_length]
  rfl
@[go_sem] noncomputable def zlv:Ent Tryz.prog 113:= .ofL (consL (slT 3 snpD zds) (consL (fnT 118 (consL (dpT (consL strT nilL) (fun p=>p) (fun p=>p) (fun _=>rfl)) nilL)) nilL)) (fun (l,((n,_),_),_)=>l.length≤9223372036854775807) (fun (l,((n,_),_),_)=> .d (.int .i64 (idxP (fun s=>decide (0<s.id)&&s.name==n) l 0))) (fun (l,((n,_),_),_) hp=>⟨rfl,zpF l n hp⟩)
theorem zr3 (l:List Snp) (n:Txt) (hl:l.length≤9223372036854775807):ACall Tryz.prog 117 0 [.d (.sl 3 (l.map snpD)),.fn (.func 118) [] [.dp [.d (.str n)]]] [] (fun r _=>r= .d (.bool (l.any (fun s=>decide (0<s.id)&&s.name==n)))):=by
 refine bod Tryz.func117 Tryz.ntmps117 (fun base=>?_)
 refine' walkW fx (za zlv <| zb _)
 rw [zhz]
@[go_sem] noncomputable def znb:Ent Tryz.prog 117:= .ofL (consL (slT 3 snpD zds) (consL (fnT 118 (consL (dpT (consL strT nilL) (fun p=>p) (fun p=>p) (fun _=>rfl)) nilL)) nilL)) (fun (l,((n,_),_),_)=>l.length≤9223372036854775807) (fun (l,((n,_),_),_)=> .d (.bool (l.any (fun s=>decide (0<s.id)&&s.name==n)))) (fun (l,((n,_),_),_) hp=>⟨rfl,zr3 l n hp⟩)
def srm (a:Ws) (n:Txt):Int×Int:=
 if zar n=false then (0,19) else if a.L.any (fun s=>decide (0<s.id)&&s.name==n) then (0,20) else if idxP (fun s=>s.id==0) a.L 0<0 then (0,17)
 else if a.R.next=0∨a.R.next=4294967295 then (0,10) else (idxP (fun s=>s.id==0) a.L 0,0)
theorem ztS (a:Ws) (n:Txt) (hl:a.L.length≤8) (hn:n.length≤9223372036854775807):ACall Tryz.prog 38 60 [.vp 21 0,.d (.str n)] [(21,.var (wkS a))] (fun r h'=>r= .tup [.d (.int .i64 (srm a n).1),.d (.int .i64 (srm a n).2)]∧h'= [(21,.var (wkS a))]):=by
 refine zR (fun i=>decide (i=21)) ?_
 have hnz:=zgn n
 have hn19:zar n=false→(nameS n).2=19:=by intro h;rw [nameS,h];rfl
 refine bod Tryz.func38 Tryz.ntmps38 (fun base=>?_)
 obtain ⟨Z,hZ⟩:∃Z,Z=srm a n:=⟨_,rfl⟩
 rw [← hZ]
 rw [srm] at hZ
 refine' walkW hnz (za zhC <| za zna <| za znb <| zb _)
 ·simp only [Bool.not_eq_true'] at hc
  rw [hZ,if_pos hc,hn19 hc]
 ·rename_i h1
  simp only [Bool.not_eq_false'] at h1
  rw [hZ,if_neg (by rw [h1];decide),if_pos hc]
 ·rename_i h1 h2
  simp only [Bool.not_eq_false'] at h1
  rw [hZ,if_neg (by rw [h1];decide),if_neg (by rw [h2];decide),if_pos (of_decide_eq_true hc)]
 ·rename_i h1 h2 h3
  simp only [Bool.not_eq_false'] at h1
  rw [hZ,if_neg (by rw [h1];decide),if_neg (by rw [h2];decide),if_neg (of_decide_eq_false h3),if_pos (by simpa using hc)]
 ·rename_i h1 h2 h3
  simp only [Bool.not_eq_false'] at h1
  rw [hZ,if_neg (by rw [h1];decide),if_neg (by rw [h2];decide),if_neg (of_decide_eq_false h3),if_neg (by simpa using hc)]
def cSet:SStp:=⟨44,[],[.dp [.vp 21 0]]⟩
attribute [go_sem] cSet
def fSet (a:Ws):Ws:= { a with q:=(zav a.q ⟨a.R.l1,IntKind.u32.wrap (a.R.next+1)⟩).1,e:=(zav a.q ⟨a.R.l1,IntKind.u32.wrap (a.R.next+1)⟩).2 }
theorem ztT:Good (cSet,fSet):=by
 intro a hw he
 have hq:=hw.2
 have hr0:0≤IntKind.u32.wrap (a.R.next+1):=by rw [IntKind.wrap_u32];omega
 have hr1:IntKind.u32.wrap (a.R.next+1)≤4294967295:=by rw [IntKind.wrap_u32];omega
 refine ⟨⟨hw.1,zef hw.2⟩, { a with q:=(zav a.q ⟨a.R.l1,IntKind.u32.wrap (a.R.next+1)⟩).1 },_,rfl,?_,by simp [cSet,AV.idsL,AV.ids]⟩
 simp only [cSet,List.nil_append]
 refine zR (fun i=>decide (i<60)) ?_
 refine bod Tryz.func44 Tryz.ntmps44 (fun base=>?_)
 refine' walkW fx (za zi5 <| za zeZ <| zb _)
def cr1 (a:Ws) (n:Txt):Int×Ws:=if a.e≠0 then (0,a) else ((srm a n).1, { a with e:=(srm a n).2 })
def cr2 (a:Ws):Int×Ws:=if a.e≠0 then (0,a) else ((rtake a.x.disk a.q a.x.geom).2.1, { a with q:=(rtake a.x.disk a.q a.x.geom).1,e:=(rtake a.x.disk a.q a.x.geom).2.2 })
def screL (a:Ws) (k:Int) (s:Snp):List (SStp×(Ws→Ws)):= [(cCopy a.R.l1 s.l1,fCopy a.R.l1 s.l1),(zeI a.R.l1 1,zeo a.R.l1 1),(cPut k s,fPut k s),(cSet,fSet),(cDone,fDone)]
def screW (x:Img) (n:Txt):Ws:=wrun (screL (cr2 (cr1 (sbw x true) n).2).2 (cr1 (sbw x true) n).1 ⟨(sbw x true).R.next,(cr2 (cr1 (sbw x true) n).2).1,n⟩) (cr2 (cr1 (sbw x true) n).2).2
theorem zwe {x:Img} {n:Txt} :zU x n=if (screW x n).e≠0 then ((screW x n).x,0,(screW x n).e) else ((screW x n).x,(sbw x true).R.next,0):=by
 rw [zh3]
 cases hb:x.broken with
 |true=>
  have h1:sbw x true=⟨x,⟨0,0⟩,[],p0,24⟩:=by rw [sbw,hb];rfl
  have h2:cr1 (sbw x true) n=(0,sbw x true):=by rw [cr1,if_pos (by rw [h1];show (24:Int)≠0;decide)]
  have h3:cr2 (sbw x true)=(0,sbw x true):=by rw [cr2,if_pos (by rw [h1];show (24:Int)≠0;decide)]
  have h4:screW x n=sbw x true:=by rw [screW,h2];simp only;rw [h3];exact zdj _ _ (by rw [h1];show (24:Int)≠0;decide)
  rw [h4,h1,if_pos rfl,if_pos (by show (24:Int)≠0;decide)]
 | false=>
  have h1:sbw x true=⟨x,(sbeg x.disk).1,(sbeg x.disk).2.1,p0,(sbeg x.disk).2.2⟩:=by rw [sbw,hb];rfl
  have hfit:=ztL x.disk
  rw [screW,h1,if_neg (by decide)]
  obtain ⟨R,hR⟩:∃R,R=(sbeg x.disk).1:=⟨_,rfl⟩
  obtain ⟨L,hL⟩:∃L,L=(sbeg x.disk).2.1:=⟨_,rfl⟩
  obtain ⟨e,hE⟩:∃e,e=(sbeg x.disk).2.2:=⟨_,rfl⟩
  rw [← hL] at hfit
  rw [← hR,← hL,← hE]
  have hany:L.any (fun s=>decide (0<s.id)&&s.name==n)=L.any (fun s=>s.id !=0&&s.name==n):=by
   rw [Bool.eq_iff_iff,List.any_eq_true,List.any_eq_true]
   constructor
   ·rintro ⟨s,hs,h⟩
    refine ⟨s,hs,?_⟩
    rw [Bool.and_eq_true,decide_eq_true_eq] at h
    rw [Bool.and_eq_true,bne_iff_ne]
    exact ⟨by omega,h.2⟩
   ·rintro ⟨s,hs,h⟩
    refine ⟨s,hs,?_⟩
    have:=(hfit s hs).1
    rw [Bool.and_eq_true,bne_iff_ne] at h
    rw [Bool.and_eq_true,decide_eq_true_eq]
    exact ⟨by omega,h.2⟩
  by_cases he:e=0
  ·rw [if_neg (by simpa using he)]
   have h2:cr1 ⟨x,R,L,p0,e⟩ n=((srm ⟨x,R,L,p0,e⟩ n).1,⟨x,R,L,p0,(srm ⟨x,R,L,p0,e⟩ n).2⟩):=by rw [cr1,if_neg (by simpa using he)]
   rw [h2]
   obtain ⟨M,hM⟩:∃M,M=srm ⟨x,R,L,p0,e⟩ n:=⟨_,rfl⟩
   rw [← hM]
   rw [srm] at hM
   simp only [hany] at hM
   rw [zfT]
   have bad:∀z:Int,z≠0→(wrun (screL (cr2 ⟨x,R,L,p0,z⟩).2 0 ⟨R.next,(cr2 ⟨x,R,L,p0,z⟩).1,n⟩) (cr2 ⟨x,R,L,p0,z⟩).2)=⟨x,R,L,p0,z⟩:=fun z hz=>by
    have h3:cr2 ⟨x,R,L,p0,z⟩=(0,⟨x,R,L,p0,z⟩):=by rw [cr2,if_pos hz]
    rw [h3]
    exact zdj _ _ hz
   by_cases c1:zar n=false
   ·rw [if_pos c1] at hM ⊢
    rw [hM,bad 19 (by decide),if_pos (by show (19:Int)≠0;decide)]
   rw [if_neg c1] at hM ⊢
   by_cases c2:L.any (fun s=>s.id !=0&&s.name==n)=true
   ·rw [if_pos c2] at hM ⊢
    rw [hM,bad 20 (by decide),if_pos (by show (20:Int)≠0;decide)]
   rw [if_neg c2] at hM ⊢
   by_cases c3:idxP (fun s=>s.id==0) L 0<0
   ·rw [if_pos c3] at hM ⊢
    rw [hM,bad 17 (by decide),if_pos (by show (17:Int)≠0;decide)]
   rw [if_neg c3] at hM ⊢
   by_cases c4:R.next=0∨R.next=4294967295
   ·rw [if_pos c4] at hM ⊢
    rw [hM,bad 10 (by decide),if_pos (by show (10:Int)≠0;decide)]
   rw [if_neg c4] at hM ⊢
   have hRr:0≤R.next∧R.next≤4294967295:=by rw [hR];exact (zdh x.disk p0).2.2
   have hwn:IntKind.u32.wrap (R.next+1)=R.next+1:=zeV (by omega) (by omega)
   rw [hM]
   simp only [cr2,screL,wrun,wstep,zeo,fCopy,fPut,fSet,fDone,zcR,zee,zed,zec,zeb,hwn,ne_eq,not_true_eq_false,if_false]
   repeat' split
   all_goals simp_all
  ·have h2:cr1 ⟨x,R,L,p0,e⟩ n=(0,⟨x,R,L,p0,e⟩):=by rw [cr1,if_pos he]
   have h3:cr2 ⟨x,R,L,p0,e⟩=(0,⟨x,R,L,p0,e⟩):=by rw [cr2,if_pos he]
   rw [h2]
   simp only
   rw [h3,zdj _ _ he,if_pos he,if_pos he]
theorem zwf {a:Ws} (h:WI a) (n:Txt):WI (cr1 a n).2:=by
 unfold cr1;split<;>exact h
theorem zwg {a:Ws} (h:WI a):WI (cr2 a).2:=by
 unfold cr2;split
 ·exact h
 ·exact ⟨h.1,(h.dp.rtake _).p⟩
theorem sbw_R (x:Img) (ch:Bool):0≤(sbw x ch).R.next∧(sbw x ch).R.next≤4294967295:=by
 unfold sbw
 split
 ·show (0:Int)≤0∧(0:Int)≤4294967295
  decide
 ·exact (zdh x.disk p0).2.2
theorem ztU (x:Img) (name:Txt) (hp:ImgF x∧name.length≤9223372036854775807):AC 10 [imgA x,.d (.str name)] (.tup [imgA (zU x name).1,.d (.int .u32 (zU x name).2.1),.d (.int .i64 (zU x name).2.2)]):=by
 obtain ⟨h,hn⟩:=hp
 refine fbod Tryz.func10 Tryz.ntmps10 (fun base=>?_)
 refine' zc fx
 refine (ACall.own (fl':=0) (zeH x true h) rfl rfl (by omega) (by rintro r h' ⟨rfl,rfl⟩;rfl)).mono ?_
 rintro r h' ⟨h1',⟨rfl,rfl⟩,rfl⟩
 have hLl:=sbw_L x true
 have hRn:=sbw_R x true
 have hWI:=zup h true
 have heq:=zwe (x:=x) (n:=name)
 rw [screW] at heq
 obtain ⟨a,ha⟩:∃a,a=sbw x true:=⟨_,rfl⟩
 rw [← ha] at hLl hRn hWI heq ⊢
 simp only [go_sem,aeq,aeq.aeqF,simprocAttr,List.singleton_append]
 refine' zb0 (zaN 4) fx
 refine zaX 22 rfl ?_;simp only [go_sem,aeq,aeq.aeqF,simprocAttr]
 refine zaX 1 rfl ?_;simp only [go_sem,aeq,aeq.aeqF,simprocAttr]
 refine' zc fx
 obtain ⟨B,hB⟩:∃B:Int→Int→Ws→AHeap,B=fun k l1 b=> [(31,.var [.d (.int .i64 k)]),(30,.var [.d (.int .u32 a.R.next),.d (.int .i64 l1),.d (.str name)]),(21,.var (wkS b)),(2,.var img0),(0,.var (imgV x))]:=⟨_,rfl⟩
 obtain ⟨l,hll⟩:∃l:List SStp,l= [⟨37,[],[.dp [.vp 21 0],.dp [.d (.str name)],.vp 31 0]⟩,⟨39,[],[.dp [.vp 21 0],.vp 30 0]⟩]:=⟨_,rfl⟩
 have hok:∀k t b,SOk 50 l (B k t b):=by intro k t b;rw [hB,hll];exact {}
 have hse:∀k t b e,hset (B k t b) 21 (.var (wkS { b with e:=e }))=B k t { b with e:=e } :=by intro k t b e;rw [hB];rfl
 have hge:∀k t b,hget (B k t b) 21=some (.var (wkS b)):=by intro k t b;rw [hB];rfl
 have hWI1:=zwf hWI name
 have hWI2:=zwg hWI1
 have fin2:∀k c b,(k,b)=c→WI b→Runs 50 l (fun h'=>h'=B k (cr2 b).1 (cr2 b).2) [⟨39,[],[.dp [.vp 21 0],.vp 30 0]⟩] (B k 0 b):=by
  intro k c b _ hb
  by_cases he:b.e=0
  ·have hdp:=hb.dp
   have hho:=hb.1.host
   have hZ:cr2 b=((rtake b.x.disk b.q b.x.geom).2.1, { b with q:=(rtake b.x.disk b.q b.x.geom).1,e:=(rtake b.x.disk b.q b.x.geom).2.2 }):=by rw [cr2,if_neg (by simpa using he)]
   refine ⟨hok _ _ _,_,_,hge _ _ _,fun h=>absurd he h,fun _=>(zeg (v:= .d (.int .i64 (rtake b.x.disk b.q b.x.geom).2.2)) (H':=B k (rtake b.x.disk b.q b.x.geom).2.1 { b with q:=(rtake b.x.disk b.q b.x.geom).1 }) ?_ (by rw [hB];rfl) (by rw [hB];exact zat rfl)).mono ?_⟩
   ·rw [hB]
    refine bod Tryz.func39 Tryz.ntmps39 (fun base=>?_)
    refine' walkW fx (za zi5 <| za zeZ <| zb _)
   rintro v h' ⟨rfl,rfl⟩
   refine ⟨_,_,_,rfl,hge _ _ _,?_⟩
   rw [hse]
   exact ⟨hok _ _ _,by rw [hZ]⟩
  ·have hZ:cr2 b=(0,b):=by rw [cr2,if_pos he]
   exact Runs.skip (hok _ _ _) (hge _ _ _) he (by rw [hZ]) _
 have fin:Runs 50 l (fun h'=>h'=B (cr1 a name).1 (cr2 (cr1 a name).2).1 (cr2 (cr1 a name).2).2) l (B 0 0 a):=by
  conv=>arg 4;rw [hll]
  by_cases he:a.e=0
  ·have hZ:cr1 a name=((srm a name).1, { a with e:=(srm a name).2 }):=by rw [cr1,if_neg (by simpa using he)]
   refine ⟨hok _ _ _,_,_,hge _ _ _,fun h=>absurd he h,fun _=>(zeg (v:= .d (.int .i64 (srm a name).2)) (H':=B (srm a name).1 0 a) ?_ (by rw [hB];rfl) (by rw [hB];exact zat rfl)).mono ?_⟩
   ·rw [hB]
    refine bod Tryz.func37 Tryz.ntmps37 (fun base=>?_)
    refine' zc fx
    refine (zfF (ztS a name hLl hn) (by decide) rfl (by simp [AObj.ids,AV.idsL,AV.ids,wkV]) (by simp [AV.idsL,AV.ids])).mono ?_
    rintro r h' ⟨rfl,rfl⟩
    simp only [go_sem,aeq,aeq.aeqF,simprocAttr,hset]
    refine' zc fx
   rintro v h' ⟨rfl,rfl⟩
   refine ⟨_,_,_,rfl,hge _ _ _,?_⟩
   rw [hse]
   rw [hZ] at hWI1 ⊢
   exact fin2 _ _ _ rfl hWI1
  ·have hZ:cr1 a name=(0,a):=by rw [cr1,if_pos he]
   have hZ2:cr2 a=(0,a):=by rw [cr2,if_pos he]
   exact Runs.skip (hok _ _ _) (hge _ _ _) he (by rw [hZ,hZ2]) _
 rw [hll,hB] at fin
 refine (zfW (fl:=50) _ (by simp) (Nat.zero_le _) fin (by rintro h' rfl;exact zcJ rfl)).mono ?_
 rintro r h' ⟨rfl,rfl⟩
 clear fin fin2 hok hse hge hll hB
 obtain ⟨k,hk⟩:∃k,k=(cr1 a name).1:=⟨_,rfl⟩
 obtain ⟨b,hb⟩:∃b,b=cr2 (cr1 a name).2:=⟨_,rfl⟩
 rw [← hk,← hb] at heq ⊢
 rw [← hb] at hWI2
 simp only [go_sem,aeq,aeq.aeqF,simprocAttr]
 refine' zb0 (zaN 5) fx
 refine' zdz (ownsL [0,2000041,2000042,2000043]) fx
 refine ⟨21,40,.var (wkS b.2),_,rfl,by decide,by simp [AObj.ids,AV.idsL,AV.ids,wkV],by simp [AV.idsL,AV.ids],zog b.2 b.2.R.l1 b.1,?_⟩
 refine ⟨21,40,.var (wkS b.2),_,rfl,by decide,by simp [AObj.ids,AV.idsL,AV.ids,wkV],by simp [AV.idsL,AV.ids],zfX b.2 b.2.R.l1 1,?_⟩
 refine ⟨21,40,.var (wkS b.2),_,rfl,by decide,by simp [AObj.ids,AV.idsL,AV.ids,wkV],by simp [AV.idsL,AV.ids],zrV b.2 k ⟨a.R.next,b.1,name⟩,?_⟩
 simp only [go_sem,aeq,aeq.aeqF,simprocAttr]
 refine' zdz (ownsL [0,2000041,2000042,2000043]) fx
 have hgood:∀p∈screL b.2 k ⟨a.R.next,b.1,name⟩,Good p:=by
  intro p hp
  simp only [screL,List.mem_cons,List.not_mem_nil,or_false] at hp
  rcases hp with rfl|rfl|rfl|rfl|rfl
  ·exact zlu _ _
  ·exact ze3 _ _
  ·exact zoh _ _ hRn.1 hRn.2 hn
  ·exact ztT
  ·exact zh5
 obtain ⟨W,hW⟩:∃W,W=wrun (screL b.2 k ⟨a.R.next,b.1,name⟩) b.2:=⟨_,rfl⟩
 rw [← hW] at heq
 refine (zfW (fl:=50) (K:=fun h'=>h'= [(31,.var [.d (.int .i64 k)]),(30,.var [.d (.int .u32 a.R.next),.d (.int .i64 b.1),.d (.str name)]),(21,.var (wkS W)),(2,.var img0),(0,.var (imgV x))]) ((screL b.2 k ⟨a.R.next,b.1,name⟩).map (·.1)) (by simp [screL]) (Nat.zero_le _) (Runs.chain (fun w=> [(31,.var [.d (.int .i64 k)]),(30,.var [.d (.int .u32 a.R.next),.d (.int .i64 b.1),.d (.str name)]),(21,.var (wkS w)),(2,.var img0),(0,.var (imgV x))]) (fun a=> { is:=by simp only [screL,inH,AV.ids,AV.idsL,AV.idsR,List.map_cons,List.map_nil,stR,hget,go_sem,simprocAttr] }) (fun _ _=>rfl) (fun _=>rfl) _ _ hWI2 hgood (by rw [hW])) (by rintro h' rfl;exact zcJ rfl)).mono ?_
 rintro r h' ⟨rfl,rfl⟩
 simp only [go_sem,aeq,aeq.aeqF,simprocAttr]
 refine' zc fx
 ·rw [heq,if_pos (bneP hc)]
 ·rw [heq,if_neg (bneN hc)]
@[go_sem] noncomputable def zab:Ent Tryz.prog 10:= .m2 zbD strT ztU
open Go Go.Proofs
theorem zoi {d:Disk} {p:Plan} :∀ (m i:Nat) (l:List Snp),(snapsK d p m i l).2=0→(snapsK d p m i l).1.length=l.length+m
 |0,i,l,_=>rfl
 | m+1,i,l,h=>by
  rw [snapsK] at h ⊢
  split at h
  ·rename_i he;exact absurd h he
  ·rename_i he
   rw [if_neg he]
   split at h
   ·rename_i ho
    rw [if_pos ho,zoi m _ _ h,List.length_append,List.length_singleton]
    omega
   ·cases h
theorem znc (d:Disk) (p:Plan) (h:DP d p) (h0:(snaps d p).2=0):ACall Tryz.prog 180 10 [diskA d,planA p,.d (.int .i64 8),.fn (.func 181) [] []] [] (fun r h'=>r= .tup [.osl 12 3 8 0 8,.d (.int .i64 0)]∧h'= [(12,.arr 3 ((snaps d p).1.map snpD))]∧(snaps d p).1.length=8):=by
 refine zR (fun i=>decide (i=12)) ?_
 refine bod Tryz.func180 Tryz.ntmps180 (fun base=>?_)
 refine' walkW fx (za za8 <| za zaR <| zb _)
 refine zcq 10 3 rfl ?_
 simp only [fresh,top,hget, ↓reduceIte]
 refine zk (fun q: { q:Nat×List Snp // q.1≤8∧q.2.length=q.1∧snaps d p=snapsK d p (8 - q.1) q.1 q.2 } =>⟨[(3,true,.fn (.func 181) [] []),(4,true,.vp 10 0),(5,true,.vp 11 0),(10,true,.osl 12 3 q.1.1 0 q.1.1),(14,true,.d (.int .i64 8)),(15,true,.d (.int .i64 q.1.1))],[(12,.arr 3 (q.1.2.map snpD)),(11,(.var [.d (.sl 1 (p.targets.map intD)),.d (.sl 1 (p.texts.map strD))])),(10,(.var [.d (.str d.data),.d (.sl 2 (d.cache.map putD)),.d (.int .i64 d.fuse),.d (.bool d.off),.d (.sl 1 (d.bad.map intD))]))],some []⟩) (fun q=>8 - q.1.1) ⟨(0,[]),Nat.zero_le 8,rfl,rfl⟩ le1 (fun q=>?_)
 obtain ⟨⟨i,l⟩,hi,hll,hf⟩:=q
 simp only at hi hll hf ⊢
 rcases Nat.lt_or_ge i 8 with hlt|hge
 ·have hcmp:decide ((i:Int)<8)=true:=decide_eq_true (by omega)
  have hwi:=zn (i:=i) (by omega)
  have hlm:(l.map snpD).length=i:=by rw [List.length_map,hll]
  have hsg:=zlo (d:=d) (p:=p) (i:=i)
  rw [zfo hlt,snapsK] at hf
  obtain ⟨S,hS⟩:∃S,S=sgetA d p (2+(i:Int) / 4) ((i:Int) % 4*16):=⟨_,rfl⟩
  rw [← hS] at hsg
  by_cases he:(plook d p (2+((i / 4:Nat):Int))).2=0
  ·rw [if_neg (by simpa using he)] at hf hsg
   cases ho:snpOk (slotB (plook d p (2+((i / 4:Nat):Int))).1 i) with
   |true=>
    rw [ho,if_pos rfl] at hf hsg
    have hb:(S.2 !=0)=false:=by rw [hsg];rfl
    have hf2:snaps d p=snapsK d p (8 - (i+1)) (i+1) (l++ [S.1]):=by rw [hf,hsg]
    refine' walkW (z8 hcmp hS.symm hb hlm) (za za8 <| za zaR <| zb _)
    all_goals first|omega|skip
    exact ⟨⟨(i+1,l++ [S.1]),by omega,by simp [hll],hf2⟩,by simp only [List.map_append];simp only [AS.le,leT,leH,zj,AsgK,AV.le,AV.leL,AObj.le,inH,idsT,idsH,AV.ids,AV.idsL,AV.idsR,AObj.ids,lk,hget,go_sem,aeq,aeq.aeqF,simprocAttr,hwi]<;>and_intros<;>rfl,by simp;omega⟩
   |false=>
    rw [ho,if_neg (by decide)] at hf
    rw [hf] at h0
    cases h0
  ·rw [if_pos he] at hf
   rw [hf] at h0
   exact absurd h0 he
 ·have hcmp:decide ((i:Int)<8)=false:=decide_eq_false (by omega)
  have him:i=8:=by omega
  subst him
  have hf3:snaps d p=(l,0):=hf
  refine' walkW hcmp (za za8 <| za zaR <| zb _)
  ·rw [hf3]
  ·rw [hf3];exact hll
theorem zr4 (d:Disk) (p:Plan) (h:DP d p) (h0:(snaps d p).2=0):ACall Tryz.prog 112 0 [diskA d,planA p] [] (fun r h'=>r= .tup [.osl 12 3 8 0 8,.d (.int .i64 0)]∧h'= [(12,.arr 3 ((snaps d p).1.map snpD))]∧(snaps d p).1.length=8):=by
 refine zR (fun i=>decide (i=12)) ?_
 refine bod Tryz.func112 Tryz.ntmps112 (fun base=>?_)
 refine' zc fx
 refine (ACall.own (fl':=0) (znc d p h h0) rfl rfl (by omega) (by rintro r h' ⟨rfl,rfl,_⟩;rfl)).mono ?_
 rintro r h' ⟨h1',⟨rfl,rfl,hl⟩,rfl⟩
 simp only [go_sem,aeq,aeq.aeqF,simprocAttr,List.singleton_append]
 refine' zc fx
theorem ztV (x:Img) (h:ImgF x) (h0:(sbeg x.disk).2.2=0):(sbeg x.disk).2.1.length=8∧ACall Tryz.prog 32 20 [imgA x,.d (.bool false)] [] (fun r h'=>r= .vp 21 0∧h'= [(64,.arr 3 ((sbeg x.disk).2.1.map snpD)),(21,.var (wkV ⟨x,(sbeg x.disk).1,(sbeg x.disk).2.1,p0,0⟩ (.osl 64 3 8 0 8)))]):=by
 have hdp:DP x.disk p0:=⟨h.disk,zcw⟩
 have hR0:(zi x.disk p0).2=0:=by
  rw [sbeg] at h0
  by_cases he:(zi x.disk p0).2=0
  ·exact he
  ·simp only [ne_eq,he,not_false_eq_true,if_true] at h0
 have hsb:sbeg x.disk=((zi x.disk p0).1,(snaps x.disk p0).1,(snaps x.disk p0).2):=by
  rw [sbeg,if_neg (by simpa using hR0)]
 rw [hsb] at h0 ⊢
 simp only at h0 ⊢
 have hsn:=zr4 x.disk p0 hdp h0
 have hl8:(snaps x.disk p0).1.length=8:=zoi 8 0 [] h0
 have hsn2:ACall Tryz.prog 112 0 [diskA x.disk,planA p0] [] (fun r h'=>r= .tup [.osl 12 3 ((snaps x.disk p0).1.map snpD).length 0 ((snaps x.disk p0).1.map snpD).length,.d (.int .i64 0)]∧h'= [(12,.arr 3 ((snaps x.disk p0).1.map snpD))]):=by
  rw [List.length_map,hl8]
  exact hsn.mono (fun r h' hr=>⟨hr.1,hr.2.1⟩)
 refine ⟨hl8,?_⟩
 refine zR (fun i=>decide (i=21)||decide (i=64)) ?_
 refine bod Tryz.func32 Tryz.ntmps32 (fun base=>?_)
 obtain ⟨B,hB⟩:∃B:Ws→AHeap,B=fun a=> [(22,.var [.vp 21 0]),(21,.var (wkS a)),(20,.var (imgV x))]:=⟨_,rfl⟩
 obtain ⟨l,hl⟩:∃l:List SStp,l= [⟨109,[],[.vp 20 0,.vp 22 0]⟩,⟨111,[],[.vp 20 0,.vp 22 0]⟩]:=⟨_,rfl⟩
 have hok:∀a,SOk 40 l (B a):=by intro a;rw [hB,hl];exact {}
 have hse:∀a e,hset (B a) 21 (.var (wkS { a with e:=e }))=B { a with e:=e } :=by intro a e;rw [hB];rfl
 have hge:∀a,hget (B a) 21=some (.var (wkS a)):=by intro a;rw [hB];rfl
 have fin:Runs 40 l (fun h'=>h'= [(64,.arr 3 ((snaps x.disk p0).1.map snpD)),(22,.var [.vp 21 0]),(21,.var (wkV ⟨x,(zi x.disk p0).1,(snaps x.disk p0).1,p0,0⟩ (.osl 64 3 8 0 8))),(20,.var (imgV x))]) l (B ⟨x,⟨0,0⟩,[],p0,0⟩):=by
  conv=>arg 4;rw [hl]
  refine ⟨hok _,_,_,hge _,fun h=>absurd rfl h,fun _=>(zeg (v:= .d (.int .i64 (zi x.disk p0).2)) (H':=B ⟨x,(zi x.disk p0).1,[],p0,0⟩) ?_ (by rw [hB];rfl) (by rw [hB];exact zat rfl)).mono ?_⟩
  ·rw [hB]
   refine bod Tryz.func109 Tryz.ntmps109 (fun base=>?_)
   refine' walkW fx (za zcx <| za zgw <| zb _)
  rintro v h' ⟨rfl,rfl⟩
  refine ⟨_,_,_,rfl,hge _,?_⟩
  rw [hse]
  refine ⟨hok _,_,_,hge _,fun h=>absurd hR0 h,fun _=>(ACall.whole (fl:=60) (K:=fun v h'=>v= .d (.int .i64 0)∧h'= [(64,.arr 3 ((snaps x.disk p0).1.map snpD)),(22,.var [.vp 21 0]),(21,.var (wkV ⟨x,(zi x.disk p0).1,(snaps x.disk p0).1,p0,0⟩ (.osl 64 3 8 0 8))),(20,.var (imgV x))]) ?_ (by rw [hB];exact zat rfl) (by omega) (by
   rintro r h' ⟨_,rfl⟩ i hi
   rw [hB] at hi
   rw [hget]
   split
   ·rfl
   ·exact zcJ (by rfl) i hi)).mono ?_⟩
  ·rw [hB,hR0]
   refine zR (fun i=>decide (i<60)||decide (i=64)) ?_
   refine bod Tryz.func111 Tryz.ntmps111 (fun base=>?_)
   refine' zdz (ownsL [3000112]) fx
   refine ⟨12,3,(snaps x.disk p0).1.map snpD,.int .i64 0,ACall.args_le (by simp [AV.leL,AV.le,diskA,planA,p0]) hsn2,?_⟩
   rw [List.length_map,hl8]
   refine' zdz (ownsL [3000112]) fx
  rintro v h' ⟨rfl,rfl⟩
  exact ⟨⟨x,(zi x.disk p0).1,(snaps x.disk p0).1,p0,0⟩,.osl 64 3 8 0 8,0,rfl,rfl,by rw [hl];exact {},rfl⟩
 rw [hl,hB] at fin
 refine' zb0 (zaN 4) @Bool.false_and
 refine aw_le ⟨[(2,true,.vp 20 0),(5,true,.vp 22 0)],[(22,.var [.vp 21 0]),(21,.var (wkS ⟨x,⟨0,0⟩,[],p0,0⟩)),(20,.var (imgV x))],some []⟩ le1 ?_
 refine' zc fx
 refine (zfW (fl:=40) _ (by decide) (by omega) fin (by
  rintro h' rfl i hi
  rw [hget]
  split
  ·rfl
  ·exact zcJ (by rfl) i hi)).mono ?_
 rintro r h' ⟨rfl,rfl⟩
 refine' zc fx
theorem zwh (s:Snp) (_:True):AC 34 [snpA s] (.d (.bool (s.id==0))):=by
 refine fbod Tryz.func34 Tryz.ntmps34 (fun base=>?_)
 refine' zc fx
@[go_sem] noncomputable def zeh:Ent Tryz.prog 34:= .m1 zfK zwh
theorem zr5 (l:List Snp) (hl:l.length≤9223372036854775807):ACall Tryz.prog 113 0 [.d (.sl 3 (l.map snpD)),.fn (.func 34) [] []] [] (fun r _=>r= .d (.int .i64 (idxP (fun s=>s.id==0) l 0))):=by
 refine bod Tryz.func113 Tryz.ntmps113 (fun base=>?_)
 refine' zc fx
 refine zk (fun q:Idst (fun s=>s.id==0) l=>⟨[(0,true,.d (.sl 3 (l.map snpD))),(1,true,.fn (.func 34) [] []),(7,true,.d (.int .i64 l.length)),(8,true,.d (.int .i64 q.1))],[],some []⟩) (fun q=>l.length - q.1) ⟨0,Nat.zero_le _,rfl⟩ le1 (fun q=>?_)
 obtain ⟨i,hi,hf⟩:=q
 simp only at hi hf ⊢
 rcases zM snpD l i hi with ⟨⟨m,s,u⟩,hq,hlt,hcmp,hrow,hdr,htk⟩|⟨hend,hcmp⟩
 ·simp only [snpD] at hrow
  have hwi:=zn (i:=i) (by omega)
  refine' walkW (zp hcmp hrow) (za zeh <| zb _)
  ·rw [hf,hdr,idxP,if_pos (by simpa using hc)]
  ·exact ⟨⟨i+1,by omega,by rw [hf,hdr,idxP,if_neg (by simpa using hc)]⟩,lew,by simp;omega⟩
 ·refine' zc hcmp
  rw [hf,hend,List.drop_length]
  rfl
@[go_sem] noncomputable def zcn:Ent Tryz.prog 113:= .ofL (consL (slT 3 snpD zds) (consL (fnT 34 nilL) nilL)) (fun (l,_,_)=>l.length≤9223372036854775807) (fun (l,_,_)=> .d (.int .i64 (idxP (fun s=>s.id==0) l 0))) (fun (l,_,_) hp=>⟨rfl,zr5 l hp⟩)
def snz:List D:= [.int .u32 0,.int .i64 0,.str []]
theorem zoj {P:Snp→Bool} :∀ (l:List Snp) (n:Nat),idxP P l n= -1→l.filter (fun s=> !P s)=l
 | [],n,_=>rfl
 | x::l,n,h=>by
  rw [idxP] at h
  cases hx:P x with
  |true=>rw [hx,if_pos rfl] at h;omega
  |false=>
   rw [hx,if_neg (by decide)] at h
   rw [List.filter_cons,hx,Bool.not_false,if_pos rfl,zoj l _ h]
theorem zr6 {P:Snp→Bool} :∀ (l:List Snp) (n i:Nat),idxP P l n=((n+i:Nat):Int)→(l.take (i+1)).filter (fun s=> !P s)=l.take i
 | [],n,i,h=>by rw [idxP] at h;omega
 | x::l,n,i,h=>by
  rw [idxP] at h
  cases hx:P x with
  |true=>
   rw [hx,if_pos rfl] at h
   obtain rfl:i=0:=by omega
   simp [List.filter_cons,hx]
  | false=>
   rw [hx,if_neg (by decide)] at h
   cases i with
   |zero=>rcases zcv P l (n+1) with hh|hh<;>omega
   |succ i=>
    rw [List.take_succ_cons,List.take_succ_cons,List.filter_cons,hx,Bool.not_false,if_pos rfl,zr6 l (n+1) i (by rw [h];congr 1;omega)]
theorem zvs {A:List Snp} {i:Nat} {u:Snp} (hi:i<A.length):(A.map snpD).set i (((((A.map snpD).getD i []).set 0 (D.int .u32 u.id)).set 1 (D.int .i64 u.l1)).set 2 (D.str u.name))=(A.set i u).map snpD:=by
 obtain ⟨w,hw⟩:=zam hi
 rw [zbk (g:=snpD) hw,List.map_set]
 rfl
theorem zvt (L:List Snp) (hl:L.length≤8):ACall Tryz.prog 33 70 [.osl 64 3 L.length 0 L.length,.fn (.func 34) [] []] [(64,.arr 3 (L.map snpD))] (fun r h'=>r= .osl 64 3 L.length 0 (L.filter (fun s=>s.id !=0)).length∧h'= [(64,.arr 3 ((L.filter (fun s=>s.id !=0)).map snpD++List.replicate (L.length - (L.filter (fun s=>s.id !=0)).length) snz))]):=by
 refine zR (fun i=>decide (i=64)) ?_
 have hlm:(L.map snpD).length=L.length:=List.length_map _
 have htk:List.take L.length (L.map snpD)=L.map snpD:=List.take_of_length_le (by simp)
 obtain ⟨I,hI⟩:∃I,I=idxP (fun s:Snp=>s.id==0) L 0:=⟨_,rfl⟩
 have hF:L.filter (fun s=>s.id !=0)=L.filter (fun s=> !(s.id==0)):=rfl
 have hI2:I= -1→L=L.filter (fun s=> !(s.id==0)):=fun h=>(zoj L 0 (by rw [← hI];exact h)).symm
 refine bod Tryz.func33 Tryz.ntmps33 (fun base=>?_)
 rcases zcv (fun s:Snp=>s.id==0) L 0 with hb|hb
 ·rw [← hI] at hb
  have hc:(I== -1)=true:=by rw [hb];rfl
  refine' walkW (z8 hlm htk hI.symm hc) (za zcn <| za zeh <| zb _)
  all_goals rw [hF,← hI2 hb]
  rw [Nat.sub_self]
  simp
 ·rw [← hI] at hb
  have hc:(I== -1)=false:=by rw [beq_eq_false_iff_ne];omega
  have hwi:IntKind.i64.wrap (I+1)=I+1:=ze (by omega) (by omega)
  refine' walkW (zbQ hlm htk hI.symm hc hwi) (za zcn <| za zeh <| zb _)
  obtain ⟨k,hk⟩:∃k:Nat,I=k:=⟨I.toNat,by omega⟩
  subst hk
  have hfi:=zr6 L 0 k (by rw [← hI];simp)
  refine zk (fun q: { q:Nat×Nat×List Snp // q.1≤q.2.1∧q.2.1≤L.length∧q.2.2.length=L.length∧q.2.2.take q.1=(L.take q.2.1).filter (fun s=> !(s.id==0))∧q.2.2.drop q.2.1=L.drop q.2.1 } =>⟨[(0,true,.osl 64 3 L.length 0 L.length),(1,true,.fn (.func 34) [] []),(5,true,.d (.int .i64 q.1.1)),(6,true,.d (.int .i64 q.1.2.1))],[(64,.arr 3 (q.1.2.2.map snpD))],some []⟩) (fun q=>L.length - q.1.2.1) ⟨(k,k+1,L),by show k≤k+1;omega,by show k+1≤L.length;omega,rfl,hfi.symm,rfl⟩ le1 (fun q=>?_)
  obtain ⟨⟨i,j,A⟩,hij,hj,hA,hA1,hA2⟩:=q
  simp only at hij hj hA hA1 hA2 ⊢
  have hAm:(A.map snpD).length=L.length:=by rw [List.length_map,hA]
  rcases Nat.lt_or_ge j L.length with hlt|hge
  ·obtain ⟨u,hu⟩:=zam hlt
   have huA:A[j]?=some u:=by
    have:(A.drop j)[0]?=(L.drop j)[0]?:=by rw [hA2]
    simpa using this.trans (by simpa using hu)
   have hrow:=zbk (g:=snpD) huA
   simp only [snpD] at hrow
   have hcmp:decide ((j:Int)<(L.length:Int))=true:=decide_eq_true (by omega)
   have hwj:=zn (i:=j) (by omega)
   have hwi2:=zn (i:=i) (by omega)
   have hA3:A.drop (j+1)=L.drop (j+1):=by
    have:=congrArg (List.drop 1) hA2
    simpa [List.drop_drop] using this
   cases hz:(u.id==0) with
   |true=>
    refine' walkW (zbQ hcmp hAm hrow hz natC) (za zcn <| za zeh <| zb _)
    exact ⟨⟨(i,j+1,A),by show i≤j+1;omega,by show j+1≤L.length;omega,hA,by show A.take i=(L.take (j+1)).filter _;rw [za9 hu,List.filter_append,← hA1];simp [List.filter,hz],hA3⟩,by simp only [AS.le,leT,leH,zj,AsgK,AV.le,AV.leL,AObj.le,inH,idsT,idsH,AV.ids,AV.idsL,AV.idsR,AObj.ids,lk,hget,go_sem,aeq,aeq.aeqF,simprocAttr,hwj]<;>and_intros<;>rfl,by show L.length - (j+1)<L.length - j;omega⟩
   | false=>
    refine' walkW (zbQ hcmp hAm hrow hz natC) (za zcn <| za zeh <| zb _)
    rw [zvs (by omega)]
    exact ⟨⟨(i+1,j+1,A.set i u),by show i+1≤j+1;omega,by show j+1≤L.length;omega,by show (A.set i u).length=_;rw [List.length_set];exact hA,by
     show (A.set i u).take (i+1)=(L.take (j+1)).filter _
     rw [za9 hu,List.filter_append,← hA1,za9 (l:=A.set i u) (q:=u) (by rw [List.getElem?_set_self (by omega)]),List.take_set_of_le (Nat.le_refl _)]
     simp [List.filter,hz],by show (A.set i u).drop (j+1)=_;rw [List.drop_set_of_lt (by omega)];exact hA3⟩,by simp only [AS.le,leT,leH,zj,AsgK,AV.le,AV.leL,AObj.le,inH,idsT,idsH,AV.ids,AV.idsL,AV.idsR,AObj.ids,lk,hget,go_sem,aeq,aeq.aeqF,simprocAttr,hwj,hwi2]<;>and_intros<;>rfl,by show L.length - (j+1)<L.length - j;omega⟩
  ·obtain rfl:j=L.length:=by omega
   have hcmp:decide ((L.length:Int)<(L.length:Int))=false:=decide_eq_false (by omega)
   rw [List.take_length] at hA1
   have hFl:(L.filter (fun s=> !(s.id==0))).length=i:=by rw [← hA1,List.length_take];omega
   have hrp:rput (A.map snpD) i (List.replicate (L.length - i) snz)=(L.filter (fun s=> !(s.id==0))).map snpD++List.replicate (L.length - i) snz:=by
    rw [← hA1,List.map_take,rput,List.length_replicate,List.drop_of_length_le (by rw [hAm];omega),List.append_nil]
   refine' walkW (zA hcmp hAm natC) (za zcn <| za zeh <| zb _)
   ·exact (congrArg List.length hrp).trans (by rw [List.length_append,List.length_map,hFl,List.length_replicate];omega)
   ·rw [hF,hFl,Nat.sub_zero]
   ·rw [hF,hFl]
    exact congrArg (fun z=> [(64,AObj.arr 3 z)]) hrp
theorem zvu:ACall Tryz.prog 33 0 [.d (.sl 3 []),.fn (.func 34) [] []] [] (fun r _=>r= .d (.sl 3 [])):=by
 have hc:(idxP (fun s:Snp=>s.id==0) [] 0== -1)=true:=rfl
 refine fbod Tryz.func33 Tryz.ntmps33 (fun base=>?_)
 refine' walkW hc (za zcn <| za zeh <| zb _)
@[go_sem] noncomputable def zr7:Ent Tryz.prog 33:= .ofL (consL (zdn (.d (.sl 3 []))) (consL (fnT 34 nilL) nilL)) (fun (_,_,_)=>True) (fun (_,_,_)=> .d (.sl 3 [])) (fun (_,_,_) hp=>⟨rfl,zvu⟩)
theorem ztW {d:Disk} (h:(sbeg d).2.2≠0):(sbeg d).2.1= []:=by
 have hk:∀ (m i:Nat) (l:List Snp),(snapsK d p0 m i l).2≠0→(snapsK d p0 m i l).1= []:=by
  intro m
  induction m with
  |zero=>intro i l h;exact absurd rfl h
  | succ m ih=>
   intro i l h
   rw [snapsK] at h ⊢
   split at h
   ·rename_i he;rw [if_pos he]
   ·rename_i he
    rw [if_neg he]
    split at h
    ·rename_i ho;rw [if_pos ho];exact ih _ _ h
    ·rename_i ho;rw [if_neg ho]
 unfold sbeg at h ⊢
 simp only at h ⊢
 split
 ·rfl
 ·rename_i he
  rw [if_neg he] at h
  exact hk _ _ _ h
theorem zr8 (x:Img) (h:ImgF x):AC 8 [imgA x] (.tup [.d (.sl 3 ((slist x.disk).1.map snpD)),.d (.int .i64 (slist x.disk).2)]):=by
 refine fbod Tryz.func8 Tryz.ntmps8 (fun base=>?_)
 obtain ⟨Z,hZ⟩:∃Z,Z=slist x.disk:=⟨_,rfl⟩
 rw [← hZ]
 rw [zfU] at hZ
 by_cases he:(sbeg x.disk).2.2=0
 ·obtain ⟨h8,hb⟩:=ztV x h he
  refine' zc fx
  refine (ACall.own (fl':=0) hb rfl rfl (by omega) (by rintro r h' ⟨rfl,rfl⟩;rfl)).mono ?_
  rintro r h' ⟨h1',⟨rfl,rfl⟩,rfl⟩
  rw [if_neg (by simpa using he)] at hZ
  obtain ⟨L,hL⟩:∃L,L=(sbeg x.disk).2.1:=⟨_,rfl⟩
  rw [← hL] at h8 hZ ⊢
  have hdel:=zvt L (by omega)
  rw [h8] at hdel
  simp only [go_sem,aeq,aeq.aeqF,simprocAttr,List.cons_append,List.nil_append]
  refine' zdz (ownsL [1000033]) fx
  refine ⟨64,70,.arr 3 (L.map snpD),_,_,rfl,by decide,by simp [AObj.ids],by simp [AV.idsL,AV.ids],hdel,?_⟩
  simp only [go_sem,aeq,aeq.aeqF,simprocAttr]
  refine' zdz (ownsL [1000033]) fx
  have hle:(L.filter (fun s=>s.id !=0)).length≤8:=by rw [← h8];exact List.length_filter_le ..
  rw [if_pos ⟨by rw [List.length_append,List.length_map,List.length_replicate];omega,hle⟩,List.take_append_of_le_length (by rw [List.length_map];exact Nat.le_refl _),List.take_of_length_le (by rw [List.length_map];exact Nat.le_refl _),hZ]
 ·refine' zc fx
  refine (ACall.own (fl':=0) (zeH x false h) rfl rfl (by omega) (by rintro r h' ⟨rfl,rfl⟩;rfl)).mono ?_
  rintro r h' ⟨h1',⟨rfl,rfl⟩,rfl⟩
  have h1:sbw x false=⟨x,(sbeg x.disk).1,[],p0,(sbeg x.disk).2.2⟩:=by rw [sbw,ztW he];rfl
  rw [if_pos he] at hZ
  rw [h1]
  simp only [go_sem,aeq,aeq.aeqF,simprocAttr,List.singleton_append]
  refine' walkW fx (za zr7 <| zb _)
  rw [hZ]
  rfl
@[go_sem] noncomputable def z2:Ent Tryz.prog 8:= .m1 zbD zr8
open Go Go.Proofs
open Go Go.Proofs
def zdk (g m:Int):Txt:= [67,79,70,49]++putN g.toNat 2++putN m.toNat 2
def zfY (g m:Int):Txt:=padR (zdk g m++zen (sumOf 0 (zdk g m)))
theorem zjX (g m:Int):(zdk g m).length=8:=by
 rw [zdk,List.length_append,List.length_append,zI,zI];rfl
theorem zpG (g:Int) (m:Int) (h:zdH g m=true):ACall Tryz.prog 104 0 [.agg [.d (.int .i64 g),.d (.int .i64 m)]] [] (fun r _=>r= .tup [.d (.str (zfY g m)),.d (.int .i64 0)]):=by
 refine fbod Tryz.func104 Tryz.ntmps104 (fun base=>?_)
 have hg:=geo_iff.1 h
 have hw1:IntKind.u64.wrap g=g:=zaf (by omega) (by omega)
 have hw2:IntKind.u64.wrap m=m:=zaf (by omega) (by omega)
 have hl1:=zI g.toNat 2
 have hl2:=zI m.toNat 2
 have hhd:(67:UInt8)::79::70::49::putN g.toNat 2++putN m.toNat 2=zdk g m:=rfl
 have hhl:=zjX g m
 have hs:=zfm 0 (zdk g m) (by omega) (by omega)
 have hbl:=zcg (sumOf 0 (zdk g m))
 refine' walkW (zL h hw1 hw2 @zhN @ziT (zL @List.length_cons.{0} @List.length_nil.{0} hl1 hl2 hhd (zA hhl hbl @List.length_append.{0}))) (za zcT <| za zau <| za zbj <| za zaz <| za zdG <| zb _)
 rfl
@[go_sem] noncomputable def zlw:Ent Tryz.prog 104:= .ofL (consL (aggT (consL (intT .i64) (consL (intT .i64) nilL)) (fun p=>p) (fun p=>p) (fun _=>rfl)) nilL) (fun ((g,m,_),_)=>zdH g m=true) (fun ((g,m,_),_)=> .tup [.d (.str (zfY g m)),.d (.int .i64 0)]) (fun ((g,m,_),_) hp=>⟨rfl,zpG g m hp⟩)
def zh6:Img:=⟨(dflush (play (dnew 112).1 (radd (dnew 112).1 (zav (pset p0 0 (zfY 20 8)).1 ⟨0,1⟩).1 0 1).1).1).1,⟨20,8⟩,⟨1,0⟩,[],false⟩
theorem zr9:ImgF zh6:=by
 have h:DiskF (dnew 112).1:=⟨by constructor<;>simp [dnew],rfl⟩
 have hp:=(h.play (radd (dnew 112).1 (zav (pset p0 0 (zfY 20 8)).1 ⟨0,1⟩).1 0 1).1).flush
 exact ⟨⟨hp.ok,by decide,(fun m hm=>by cases hm),(fun m hm=>by cases hm)⟩,hp,by decide,by decide,by decide,by decide,by decide⟩
theorem znd:ACall Tryz.prog 30 0 [] [] (fun r _=>r=imgA zh6):=by
 have hd:DiskF (dnew 112).1:=⟨by constructor<;>simp [dnew],rfl⟩
 obtain ⟨c,hc⟩:∃c,c=zh6:=⟨_,rfl⟩
 rw [← hc]
 unfold zh6 at hc
 obtain ⟨N,hN⟩:∃N,N=dnew 112:=⟨_,rfl⟩
 obtain ⟨S,hS⟩:∃S,S=pset p0 0 (zfY 20 8):=⟨_,rfl⟩
 have hp0:pfit S.1=true:=by rw [hS];exact zcP zcw
 obtain ⟨Q,hQ⟩:∃Q,Q=zav S.1 ⟨0,1⟩:=⟨_,rfl⟩
 have hp1:pfit Q.1=true:=by rw [hQ];exact zef hp0
 rw [← hN] at hd
 rw [← hN,← hS,← hQ] at hc
 have hdp:DP N.1 Q.1:=⟨hd,hp1⟩
 obtain ⟨A,hA⟩:∃A,A=radd N.1 Q.1 0 1:=⟨_,rfl⟩
 have hp2:pfit A.1=true:=by rw [hA];exact zn4 hp1
 have hpo:=PlanOk.of hp2
 have hpl:=(zay hp2).1
 have hdo:=hd.ok
 obtain ⟨L,hL⟩:∃L,L=play N.1 A.1:=⟨_,rfl⟩
 have hLf:DiskF L.1:=by rw [hL];exact hd.play A.1
 have hLo:=hLf.ok
 have hLp:=hLf.puts
 obtain ⟨F,hF⟩:∃F,F=dflush L.1:=⟨_,rfl⟩
 rw [← hA,← hL,← hF] at hc
 have hgeo:zdH 20 8=true:=by decide
 have hpo0:=PlanOk.of zcw
 refine fbod Tryz.func30 Tryz.ntmps30 (fun base=>?_)
 refine' walkW (zL hN.symm hS.symm hQ.symm hA.symm hL.symm (zp hF.symm hc.symm)) (za zoB <| za zlw <| za zaU <| za zbO <| za zJ <| za zcf <| za zbp <| zb _)
 ·rfl
 ·decide
 ·rw [hc]
  rfl
@[go_sem] noncomputable def zjY:Ent Tryz.prog 30:= .ofL nilL (fun _=>True) (fun _=>imgA zh6) (fun _ hp=>⟨rfl,znd⟩)
open Go Go.Proofs
def Alike (d:Disk) (p:Plan) (d':Disk) (p':Plan):Prop:=∀b,b<6∨95≤b→plook d p b=plook d' p' b
theorem Alike.root {d d':Disk} {p p':Plan} (h:Alike d p d' p'):zi d p=zi d' p':=by
 unfold zi
 rw [h 1 (by omega)]
theorem Alike.snapsK {d d':Disk} {p p':Plan} (h:Alike d p d' p'):∀ (m i:Nat) (l:List Snp),m+i≤8→snapsK d p m i l=snapsK d' p' m i l
 |0,i,l,hm=>rfl
 |m+1,i,l,hm=>by rw [Aw.snapsK,Aw.snapsK,h (2+(i / 4:Nat)) (by omega),h.snapsK m (i+1) _ (by omega)]
theorem Alike.snaps {d d':Disk} {p p':Plan} (h:Alike d p d' p'):snaps d p=snaps d' p':=h.snapsK 8 0 [] (by omega)
theorem zwi (d:Disk) (b:Int):plook d p0 b=dread d b:=by
 have:¬0≤pfind p0.targets b:=by
  show ¬(0:Int)≤ -1
  decide
 unfold plook
 rw [if_neg this]
theorem zpH {x:Img} {p:Plan} (h:(cdone x p).2=0):(jcommit x.disk x.jour p).2.2=0∧(cdone x p).1= { x with disk:=(jcommit x.disk x.jour p).1,jour:=(jcommit x.disk x.jour p).2.1 } :=by
 unfold cdone at h ⊢
 split at h
 ·rename_i h1;exact absurd h h1
 ·rename_i h1
  rw [if_neg h1]
  exact ⟨by simpa using h1,rfl⟩
open Go Go.Proofs
open Go Go.Proofs
open Go Go.Proofs
attribute [local simp, local go_sem] AV.leL_refl
open Go Go.Proofs
open Go Go.Proofs
def agood (x:Img):Bool:=decide ((x.disk.cache.length:Int)≤300)&&decide ((x.maps.length:Int)≤2)&&ifit x
theorem zse {x:Img} (h:ImgOk x) (hg:agood x=true):ImgF x∧8≤x.geom.host:=by
 unfold agood ifit at hg
 simp only [Bool.and_eq_true,decide_eq_true_eq] at hg
 obtain ⟨⟨g1,g2⟩,⟨⟨⟨⟨g3,g4⟩,g5⟩,g6⟩,g7⟩,g8⟩:=hg
 rw [geo_iff] at g3
 unfold dfit at g4
 simp only [Bool.and_eq_true] at g4
 unfold jfit at g6
 simp only [Bool.and_eq_true,decide_eq_true_eq] at g6
 exact ⟨⟨h,⟨h.disk,g4.1.2⟩,by omega,by omega,by omega,by omega,by omega⟩,by omega⟩
end Go.Aw
