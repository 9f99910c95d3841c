/-
  Parts of the proof: SnapH, SnapI, SmallA (short names; the readable texts lie in the repo, under wip).
-/
import Derived.Test.YtbmlikkofegdeaaGreatDoorPiece39
import Derived.Test.YtbmlikkofegdeaaGreatDoorPiece17
import Derived.Test.YtbmlikkofegdeaaGreatDoorPiece32
import Derived.Test.YtbmlikkofegdeaaGreatDoorPiece36
import Derived.Test.YtbmlikkofegdeaaGreatDoorPiece33
set_option maxRecDepth 100000
set_option maxHeartbeats 2000000
set_option linter.unusedSimpArgs false
set_option linter.unusedVariables false
namespace Go.Aw
open Go Go.Proofs
theorem zvX (p:Plan) (t:Root) (hp:pfit p=true/\0<=t.next/\t.next<=4294967295):AC 45 [planA p,rootA t] (.tup [planA (zak p t).1,.d (.int .i64 (zak p t).2)]):=by
 obtain ⟨hp,h2,h3⟩:=hp;refine fbod Tryz.func45 Tryz.ntmps45 (λbase=>?_);obtain ⟨hl,h24,h64⟩:=zay hp;have hpo:PlanOk p:=⟨by omega,by omega⟩
 by_cases hk:zG t.l1=true
 ·obtain ⟨hk0,hk1⟩:=hostOk_iff.1 hk;refine' walkW hk (za zcw <| za zef <| za zcd <| zb _);rw [zak,if_neg (by rw [hk];exact λh=>by cases h)]
 ·have hk:zG t.l1=false:=by simpa using hk
  refine' walkW hk (za zcw <| za zef <| za zcd <| zb _);rw [zak,if_pos hk]
@[go_sem] noncomputable def zkE:Ent Tryz.prog 45:= .m2 zw ziW zvX
theorem zxI (s:Snp) (_:True):AC 116 [snpA s] (.d (.bool (s.id==0))):=by refine fbod Tryz.func116 Tryz.ntmps116 (λbase=>?_);refine' zc fx
@[go_sem] noncomputable def zt1:Ent Tryz.prog 116:= .m1 zhO zxI
theorem zxJ (s:Snp) (n:Txt):ACall Tryz.prog 118 0 [snpA s,.dp [.d (.str n)]] [] (λr _=>r= .d (.bool (decide (0<s.id)&&s.name==n))):=by
 refine fbod Tryz.func118 Tryz.ntmps118 (λbase=>?_);cases hz:decide (0<s.id) with
 |true=>refine' zc hz
 |false=>refine' zc hz
@[go_sem] noncomputable def zt2:Ent Tryz.prog 118:= .ofL (consL zhO (consL (dpT (consL strT nilL) (λp=>p) (λp=>p) (λ_=>rfl)) nilL)) (λ(s,(n,_),_)=>True) (λ(s,(n,_),_)=> .d (.bool (decide (0<s.id)&&s.name==n))) (λ(s,(n,_),_) hp=>⟨rfl,zxJ s n⟩)
theorem zt3 (l:List Snp) (hl:l.length<=9223372036854775807):ACall Tryz.prog 113 0 [.d (.sl 3 (l.map snpD)),.fn (.func 116) [] []] [] (λr _=>r= .d (.int .i64 (idxP (λs=>s.id==0) l 0))):=by
 refine bod Tryz.func113 Tryz.ntmps113 (λbase=>?_);refine' zc fx;refine zq (λq:Idst (λs=>s.id==0) l=>⟨[(0,true,.d (.sl 3 (l.map snpD))),(1,true,.fn (.func 116) [] []),(7,true,.d (.int .i64 l.length)),(8,true,.d (.int .i64 q.1))],[],some []⟩) (λq=>l.length - q.1) ⟨0,Nat.zero_le _,rfl⟩ le1 (λq=>?_);obtain ⟨i,hi,hf⟩:=q;simp only at hi hf ⊢;rcases zP snpD l i hi with ⟨⟨m,s,u⟩,hq,hlt,hcmp,hrow,hdr,htk⟩|⟨hend,hcmp⟩
 ·simp only [snpD] at hrow;have hwi:=zr (i:=i) (by omega);refine' walkW (zn hcmp hrow) (za zt1 <| zb _)
  ·rw [hf,hdr,idxP,if_pos (by simpa using hc)]
  ·exact ⟨⟨i+1,by omega,by rw [hf,hdr,idxP,if_neg (by simpa using hc)]⟩,lew,by simp;omega⟩
 ·refine' zc hcmp;rw [hf,hend,List.drop_length];rfl
@[go_sem] noncomputable def zoT:Ent Tryz.prog 113:= .ofL (consL (slT 3 snpD zh8) (consL (fnT 116 nilL) nilL)) (λ(l,_,_)=>l.length<=9223372036854775807) (λ(l,_,_)=> .d (.int .i64 (idxP (λs=>s.id==0) l 0))) (λ(l,_,_) hp=>⟨rfl,zt3 l hp⟩)
theorem zrr (l:List Snp) (n:Txt) (hl:l.length<=9223372036854775807):ACall Tryz.prog 113 0 [.d (.sl 3 (l.map snpD)),.fn (.func 118) [] [.dp [.d (.str n)]]] [] (λr _=>r= .d (.int .i64 (idxP (λs=>decide (0<s.id)&&s.name==n) l 0))):=by
 refine bod Tryz.func113 Tryz.ntmps113 (λbase=>?_);refine' zc fx;refine zq (λq:Idst (λs=>decide (0<s.id)&&s.name==n) l=>⟨[(0,true,.d (.sl 3 (l.map snpD))),(1,true,.fn (.func 118) [] [.dp [.d (.str n)]]),(7,true,.d (.int .i64 l.length)),(8,true,.d (.int .i64 q.1))],[],some []⟩) (λq=>l.length - q.1) ⟨0,Nat.zero_le _,rfl⟩ le1 (λq=>?_);obtain ⟨i,hi,hf⟩:=q;simp only at hi hf ⊢;rcases zP snpD l i hi with ⟨⟨m,s,u⟩,hq,hlt,hcmp,hrow,hdr,htk⟩|⟨hend,hcmp⟩
 ·simp only [snpD] at hrow;have hwi:=zr (i:=i) (by omega);refine' walkW (zn hcmp hrow) (za zt2 <| zb _)
  ·rw [hf,hdr,idxP,if_pos (by simpa using hc)]
  ·exact ⟨⟨i+1,by omega,by rw [hf,hdr,idxP,if_neg (by simpa using hc)]⟩,lew,by simp;omega⟩
 ·refine' zc hcmp;rw [hf,hend,List.drop_length];rfl
@[go_sem] noncomputable def znn:Ent Tryz.prog 113:= .ofL (consL (slT 3 snpD zh8) (consL (fnT 118 (consL (dpT (consL strT nilL) (λp=>p) (λp=>p) (λ_=>rfl)) nilL)) nilL)) (λ(l,((n,_),_),_)=>l.length<=9223372036854775807) (λ(l,((n,_),_),_)=> .d (.int .i64 (idxP (λs=>decide (0<s.id)&&s.name==n) l 0))) (λ(l,((n,_),_),_) hp=>⟨rfl,zrr l n hp⟩)
theorem zt4 (l:List Snp) (n:Txt) (hl:l.length<=9223372036854775807):ACall Tryz.prog 117 0 [.d (.sl 3 (l.map snpD)),.fn (.func 118) [] [.dp [.d (.str n)]]] [] (λr _=>r= .d (.bool (l.any (λs=>decide (0<s.id)&&s.name==n)))):=by refine bod Tryz.func117 Tryz.ntmps117 (λbase=>?_);refine' walkW fx (za znn <| zb _);rw [zhg]
@[go_sem] noncomputable def zoU:Ent Tryz.prog 117:= .ofL (consL (slT 3 snpD zh8) (consL (fnT 118 (consL (dpT (consL strT nilL) (λp=>p) (λp=>p) (λ_=>rfl)) nilL)) nilL)) (λ(l,((n,_),_),_)=>l.length<=9223372036854775807) (λ(l,((n,_),_),_)=> .d (.bool (l.any (λs=>decide (0<s.id)&&s.name==n)))) (λ(l,((n,_),_),_) hp=>⟨rfl,zt4 l n hp⟩)
def srm (a:Ws) (n:Txt):Int×Int:=
 if zaq n=false then (0,19) else if a.L.any (λs=>decide (0<s.id)&&s.name==n) then (0,20) else if idxP (λs=>s.id==0) a.L 0<0 then (0,17)
 else if a.R.next=0\/a.R.next=4294967295 then (0,10) else (idxP (λs=>s.id==0) a.L 0,0)
theorem zvY (a:Ws) (n:Txt) (hl:a.L.length<=8) (hn:n.length<=9223372036854775807):ACall Tryz.prog 38 60 [.vp 21 0,.d (.str n)] [(21,.var (wkS a))] (λr h'=>r= .tup [.d (.int .i64 (srm a n).1),.d (.int .i64 (srm a n).2)]/\h'= [(21,.var (wkS a))]):=by
 refine zC (λi=>decide (i=21)) ?_;have hnz:=zhk n;have hn19:zaq n=false->(nameS n).2=19:=by intro h;rw [nameS,h];rfl
 refine bod Tryz.func38 Tryz.ntmps38 (λbase=>?_);obtain ⟨Z,hZ⟩:∃Z,Z=srm a n:=⟨_,rfl⟩
 rw [<-hZ];rw [srm] at hZ;refine' walkW hnz (za ziI <| za zoT <| za zoU <| zb _)
 ·simp only [Bool.not_eq_true'] at hc;rw [hZ,if_pos hc,hn19 hc]
 ·rename_i h1;simp only [Bool.not_eq_false'] at h1;rw [hZ,if_neg (by rw [h1];decide),if_pos hc]
 ·rename_i h1 h2;simp only [Bool.not_eq_false'] at h1;rw [hZ,if_neg (by rw [h1];decide),if_neg (by rw [h2];decide),if_pos (of_decide_eq_true hc)]
 ·rename_i h1 h2 h3;simp only [Bool.not_eq_false'] at h1;rw [hZ,if_neg (by rw [h1];decide),if_neg (by rw [h2];decide),if_neg (of_decide_eq_false h3),if_pos (by simpa using hc)]
 ·rename_i h1 h2 h3;simp only [Bool.not_eq_false'] at h1;rw [hZ,if_neg (by rw [h1];decide),if_neg (by rw [h2];decide),if_neg (of_decide_eq_false h3),if_neg (by simpa using hc)]
def cSet:SStp:=⟨44,[],[.dp [.vp 21 0]]⟩
attribute [go_sem] cSet
def fSet (a:Ws):Ws:= { a with q:=(zak a.q ⟨a.R.l1,IntKind.u32.wrap (a.R.next+1)⟩).1,e:=(zak a.q ⟨a.R.l1,IntKind.u32.wrap (a.R.next+1)⟩).2 }
theorem zvZ:Good (cSet,fSet):=by
 intro a hw he;have hq:=hw.2;have hr0:0<=IntKind.u32.wrap (a.R.next+1):=by rw [IntKind.wrap_u32];omega
 have hr1:IntKind.u32.wrap (a.R.next+1)<=4294967295:=by rw [IntKind.wrap_u32];omega
 refine ⟨⟨hw.1,zd2 hw.2⟩, { a with q:=(zak a.q ⟨a.R.l1,IntKind.u32.wrap (a.R.next+1)⟩).1 },_,rfl,?_,by simp [cSet,AV.idsL,AV.ids]⟩;simp only [cSet,List.nil_append];refine zC (λi=>decide (i<60)) ?_;refine bod Tryz.func44 Tryz.ntmps44 (λbase=>?_);refine' walkW fx (za zkE <| za zD <| zb _)
def cr1 (a:Ws) (n:Txt):Int×Ws:=if a.e≠0 then (0,a) else ((srm a n).1, { a with e:=(srm a n).2 })
def cr2 (a:Ws):Int×Ws:=if a.e≠0 then (0,a) else ((rtake a.x.disk a.q a.x.geom).2.1, { a with q:=(rtake a.x.disk a.q a.x.geom).1,e:=(rtake a.x.disk a.q a.x.geom).2.2 })
def screL (a:Ws) (k:Int) (s:Snp):List (SStp×(Ws->Ws)):= [(cCopy a.R.l1 s.l1,fCopy a.R.l1 s.l1),(zfD a.R.l1 1,zfh a.R.l1 1),(cPut k s,fPut k s),(cSet,fSet),(cDone,fDone)]
def screW (x:Img) (n:Txt):Ws:=wrun (screL (cr2 (cr1 (sbw x true) n).2).2 (cr1 (sbw x true) n).1 ⟨(sbw x true).R.next,(cr2 (cr1 (sbw x true) n).2).1,n⟩) (cr2 (cr1 (sbw x true) n).2).2
theorem zyx {x:Img} {n:Txt} :zag x n=if (screW x n).e≠0 then ((screW x n).x,0,(screW x n).e) else ((screW x n).x,(sbw x true).R.next,0):=by
 rw [zjd];cases hb:x.broken with
 |true=>
  have h1:sbw x true=⟨x,⟨0,0⟩,[],p0,24⟩:=by rw [sbw,hb];rfl
  have h2:cr1 (sbw x true) n=(0,sbw x true):=by rw [cr1,if_pos (by rw [h1];show (24:Int)≠0;decide)]
  have h3:cr2 (sbw x true)=(0,sbw x true):=by rw [cr2,if_pos (by rw [h1];show (24:Int)≠0;decide)]
  have h4:screW x n=sbw x true:=by rw [screW,h2];simp only;rw [h3];exact zd8 _ _ (by rw [h1];show (24:Int)≠0;decide)
  rw [h4,h1,if_pos rfl,if_pos (by show (24:Int)≠0;decide)]
 | false=>
  have h1:sbw x true=⟨x,(sbeg x.disk).1,(sbeg x.disk).2.1,p0,(sbeg x.disk).2.2⟩:=by rw [sbw,hb];rfl
  have hfit:=zvJ x.disk;rw [screW,h1,if_neg (by decide)];obtain ⟨R,hR⟩:∃R,R=(sbeg x.disk).1:=⟨_,rfl⟩
  obtain ⟨L,hL⟩:∃L,L=(sbeg x.disk).2.1:=⟨_,rfl⟩
  obtain ⟨e,hE⟩:∃e,e=(sbeg x.disk).2.2:=⟨_,rfl⟩
  rw [<-hL] at hfit;rw [<-hR,<-hL,<-hE]
  have hany:L.any (λs=>decide (0<s.id)&&s.name==n)=L.any (λs=>s.id !=0&&s.name==n):=by
   rw [Bool.eq_iff_iff,List.any_eq_true,List.any_eq_true];constructor
   ·rintro ⟨s,hs,h⟩;refine ⟨s,hs,?_⟩;rw [Bool.and_eq_true,decide_eq_true_eq] at h;rw [Bool.and_eq_true,bne_iff_ne];exact ⟨by omega,h.2⟩
   ·rintro ⟨s,hs,h⟩;refine ⟨s,hs,?_⟩;have:=(hfit s hs).1;rw [Bool.and_eq_true,bne_iff_ne] at h;rw [Bool.and_eq_true,decide_eq_true_eq];exact ⟨by omega,h.2⟩
  by_cases he:e=0
  ·rw [if_neg (by simpa using he)];have h2:cr1 ⟨x,R,L,p0,e⟩ n=((srm ⟨x,R,L,p0,e⟩ n).1,⟨x,R,L,p0,(srm ⟨x,R,L,p0,e⟩ n).2⟩):=by rw [cr1,if_neg (by simpa using he)]
   rw [h2];obtain ⟨M,hM⟩:∃M,M=srm ⟨x,R,L,p0,e⟩ n:=⟨_,rfl⟩
   rw [<-hM];rw [srm] at hM;simp only [hany] at hM;rw [zgU]
   have bad:∀z:Int,z≠0->(wrun (screL (cr2 ⟨x,R,L,p0,z⟩).2 0 ⟨R.next,(cr2 ⟨x,R,L,p0,z⟩).1,n⟩) (cr2 ⟨x,R,L,p0,z⟩).2)=⟨x,R,L,p0,z⟩:=λz hz=>by
    have h3:cr2 ⟨x,R,L,p0,z⟩=(0,⟨x,R,L,p0,z⟩):=by rw [cr2,if_pos hz]
    rw [h3];exact zd8 _ _ hz
   by_cases c1:zaq n=false
   ·rw [if_pos c1] at hM ⊢;rw [hM,bad 19 (by decide),if_pos (by show (19:Int)≠0;decide)]
   rw [if_neg c1] at hM ⊢;by_cases c2:L.any (λs=>s.id !=0&&s.name==n)=true
   ·rw [if_pos c2] at hM ⊢;rw [hM,bad 20 (by decide),if_pos (by show (20:Int)≠0;decide)]
   rw [if_neg c2] at hM ⊢;by_cases c3:idxP (λs=>s.id==0) L 0<0
   ·rw [if_pos c3] at hM ⊢;rw [hM,bad 17 (by decide),if_pos (by show (17:Int)≠0;decide)]
   rw [if_neg c3] at hM ⊢;by_cases c4:R.next=0\/R.next=4294967295
   ·rw [if_pos c4] at hM ⊢;rw [hM,bad 10 (by decide),if_pos (by show (10:Int)≠0;decide)]
   rw [if_neg c4] at hM ⊢;have hRr:0<=R.next/\R.next<=4294967295:=by rw [hR];exact (ze0 x.disk p0).2.2
   have hwn:IntKind.u32.wrap (R.next+1)=R.next+1:=zfS (by omega) (by omega);rw [hM];simp only [cr2,screL,wrun,wstep,zfh,fCopy,fPut,fSet,fDone,zcI,zdz,zdy,zdx,zdw,hwn,ne_eq,not_true_eq_false,if_false];repeat' split
   all_goals simp_all
  ·have h2:cr1 ⟨x,R,L,p0,e⟩ n=(0,⟨x,R,L,p0,e⟩):=by rw [cr1,if_pos he]
   have h3:cr2 ⟨x,R,L,p0,e⟩=(0,⟨x,R,L,p0,e⟩):=by rw [cr2,if_pos he]
   rw [h2];simp only;rw [h3,zd8 _ _ he,if_pos he,if_pos he]
theorem zyy {a:Ws} (h:WI a) (n:Txt):WI (cr1 a n).2:=by
 unfold cr1;split<;>exact h
theorem zyz {a:Ws} (h:WI a):WI (cr2 a).2:=by
 unfold cr2;split
 ·exact h
 ·exact ⟨h.1,(h.dp.rtake _).p⟩
theorem sbw_R (x:Img) (ch:Bool):0<=(sbw x ch).R.next/\(sbw x ch).R.next<=4294967295:=by
 unfold sbw;split
 ·show (0:Int)<=0/\(0:Int)<=4294967295;decide
 ·exact (ze0 x.disk p0).2.2
theorem zv0 (x:Img) (name:Txt) (hp:ImgF x/\name.length<=9223372036854775807):AC 10 [imgA x,.d (.str name)] (.tup [imgA (zag x name).1,.d (.int .u32 (zag x name).2.1),.d (.int .i64 (zag x name).2.2)]):=by
 obtain ⟨h,hn⟩:=hp;refine fbod Tryz.func10 Tryz.ntmps10 (λbase=>?_);refine' zc fx;refine (ACall.own (fl':=0) (zju x true h) rfl rfl (by omega) (by rintro r h' ⟨rfl,rfl⟩;rfl)).mono ?_;rintro r h' ⟨h1',⟨rfl,rfl⟩,rfl⟩;have hLl:=sbw_L x true;have hRn:=sbw_R x true;have hWI:=zwu h true;have heq:=zyx (x:=x) (n:=name);rw [screW] at heq;obtain ⟨a,ha⟩:∃a,a=sbw x true:=⟨_,rfl⟩
 rw [<-ha] at hLl hRn hWI heq ⊢;simp only [go_sem,aeq,aeq.aeqF,simprocAttr,List.singleton_append];refine' zcj (zav 4) fx;refine zaN 22 rfl ?_;simp only [go_sem,aeq,aeq.aeqF,simprocAttr];refine zaN 1 rfl ?_;simp only [go_sem,aeq,aeq.aeqF,simprocAttr];refine' zc fx;obtain ⟨B,hB⟩:∃B:Int->Int->Ws->AHeap,B=λk l1 b=> [(31,.var [.d (.int .i64 k)]),(30,.var [.d (.int .u32 a.R.next),.d (.int .i64 l1),.d (.str name)]),(21,.var (wkS b)),(2,.var img0),(0,.var (imgV x))]:=⟨_,rfl⟩
 obtain ⟨l,hll⟩:∃l:List SStp,l= [⟨37,[],[.dp [.vp 21 0],.dp [.d (.str name)],.vp 31 0]⟩,⟨39,[],[.dp [.vp 21 0],.vp 30 0]⟩]:=⟨_,rfl⟩
 have hok:∀k t b,SOk 50 l (B k t b):=by intro k t b;rw [hB,hll];exact {}
 have hse:∀k t b e,hset (B k t b) 21 (.var (wkS { b with e:=e }))=B k t { b with e:=e } :=by intro k t b e;rw [hB];rfl
 have hge:∀k t b,hget (B k t b) 21=some (.var (wkS b)):=by intro k t b;rw [hB];rfl
 have hWI1:=zyy hWI name;have hWI2:=zyz hWI1
 have fin2:∀k c b,(k,b)=c->WI b->Runs 50 l (λh'=>h'=B k (cr2 b).1 (cr2 b).2) [⟨39,[],[.dp [.vp 21 0],.vp 30 0]⟩] (B k 0 b):=by
  intro k c b _ hb;by_cases he:b.e=0
  ·have hdp:=hb.dp;have hho:=hb.1.host;have hZ:cr2 b=((rtake b.x.disk b.q b.x.geom).2.1, { b with q:=(rtake b.x.disk b.q b.x.geom).1,e:=(rtake b.x.disk b.q b.x.geom).2.2 }):=by rw [cr2,if_neg (by simpa using he)]
   refine ⟨hok _ _ _,_,_,hge _ _ _,λh=>absurd he h,λ_=>(zhz (v:= .d (.int .i64 (rtake b.x.disk b.q b.x.geom).2.2)) (H':=B k (rtake b.x.disk b.q b.x.geom).2.1 { b with q:=(rtake b.x.disk b.q b.x.geom).1 }) ?_ (by rw [hB];rfl) (by rw [hB];exact zJ rfl)).mono ?_⟩
   ·rw [hB];refine bod Tryz.func39 Tryz.ntmps39 (λbase=>?_);refine' walkW fx (za zkE <| za zD <| zb _)
   rintro v h' ⟨rfl,rfl⟩;refine ⟨_,_,_,rfl,hge _ _ _,?_⟩;rw [hse];exact ⟨hok _ _ _,by rw [hZ]⟩
  ·have hZ:cr2 b=(0,b):=by rw [cr2,if_pos he]
   exact Runs.skip (hok _ _ _) (hge _ _ _) he (by rw [hZ]) _
 have fin:Runs 50 l (λh'=>h'=B (cr1 a name).1 (cr2 (cr1 a name).2).1 (cr2 (cr1 a name).2).2) l (B 0 0 a):=by
  conv=>arg 4;rw [hll]
  by_cases he:a.e=0
  ·have hZ:cr1 a name=((srm a name).1, { a with e:=(srm a name).2 }):=by rw [cr1,if_neg (by simpa using he)]
   refine ⟨hok _ _ _,_,_,hge _ _ _,λh=>absurd he h,λ_=>(zhz (v:= .d (.int .i64 (srm a name).2)) (H':=B (srm a name).1 0 a) ?_ (by rw [hB];rfl) (by rw [hB];exact zJ rfl)).mono ?_⟩
   ·rw [hB];refine bod Tryz.func37 Tryz.ntmps37 (λbase=>?_);refine' zc fx;refine (zdc (zvY a name hLl hn) (by decide) rfl (by simp [AObj.ids,AV.idsL,AV.ids,wkV]) (by simp [AV.idsL,AV.ids])).mono ?_;rintro r h' ⟨rfl,rfl⟩;simp only [go_sem,aeq,aeq.aeqF,simprocAttr,hset];refine' zc fx
   rintro v h' ⟨rfl,rfl⟩;refine ⟨_,_,_,rfl,hge _ _ _,?_⟩;rw [hse];rw [hZ] at hWI1 ⊢;exact fin2 _ _ _ rfl hWI1
  ·have hZ:cr1 a name=(0,a):=by rw [cr1,if_pos he]
   have hZ2:cr2 a=(0,a):=by rw [cr2,if_pos he]
   exact Runs.skip (hok _ _ _) (hge _ _ _) he (by rw [hZ,hZ2]) _
 rw [hll,hB] at fin;refine (zjt (fl:=50) _ (by simp) (Nat.zero_le _) fin (by rintro h' rfl;exact ze9 rfl)).mono ?_;rintro r h' ⟨rfl,rfl⟩;clear fin fin2 hok hse hge hll hB;obtain ⟨k,hk⟩:∃k,k=(cr1 a name).1:=⟨_,rfl⟩
 obtain ⟨b,hb⟩:∃b,b=cr2 (cr1 a name).2:=⟨_,rfl⟩
 rw [<-hk,<-hb] at heq ⊢;rw [<-hb] at hWI2;simp only [go_sem,aeq,aeq.aeqF,simprocAttr];refine' zcj (zav 5) fx;refine' zhd (ownsL [0,2000041,2000042,2000043]) fx;refine ⟨21,40,.var (wkS b.2),_,rfl,by decide,by simp [AObj.ids,AV.idsL,AV.ids,wkV],by simp [AV.idsL,AV.ids],zp0 b.2 b.2.R.l1 b.1,?_⟩;refine ⟨21,40,.var (wkS b.2),_,rfl,by decide,by simp [AObj.ids,AV.idsL,AV.ids,wkV],by simp [AV.idsL,AV.ids],zgX b.2 b.2.R.l1 1,?_⟩;refine ⟨21,40,.var (wkS b.2),_,rfl,by decide,by simp [AObj.ids,AV.idsL,AV.ids,wkV],by simp [AV.idsL,AV.ids],ztY b.2 k ⟨a.R.next,b.1,name⟩,?_⟩;simp only [go_sem,aeq,aeq.aeqF,simprocAttr];refine' zhd (ownsL [0,2000041,2000042,2000043]) fx
 have hgood:∀p∈screL b.2 k ⟨a.R.next,b.1,name⟩,Good p:=by
  intro p hp;simp only [screL,List.mem_cons,List.not_mem_nil,or_false] at hp;rcases hp with rfl|rfl|rfl|rfl|rfl
  ·exact znm _ _
  ·exact zf9 _ _
  ·exact zp1 _ _ hRn.1 hRn.2 hn
  ·exact zvZ
  ·exact zjv
 obtain ⟨W,hW⟩:∃W,W=wrun (screL b.2 k ⟨a.R.next,b.1,name⟩) b.2:=⟨_,rfl⟩
 rw [<-hW] at heq;refine (zjt (fl:=50) (K:=λh'=>h'= [(31,.var [.d (.int .i64 k)]),(30,.var [.d (.int .u32 a.R.next),.d (.int .i64 b.1),.d (.str name)]),(21,.var (wkS W)),(2,.var img0),(0,.var (imgV x))]) ((screL b.2 k ⟨a.R.next,b.1,name⟩).map (·.1)) (by simp [screL]) (Nat.zero_le _) (Runs.chain (λw=> [(31,.var [.d (.int .i64 k)]),(30,.var [.d (.int .u32 a.R.next),.d (.int .i64 b.1),.d (.str name)]),(21,.var (wkS w)),(2,.var img0),(0,.var (imgV x))]) (λa=> { is:=by simp only [screL,inH,AV.ids,AV.idsL,AV.idsR,List.map_cons,List.map_nil,stR,hget,go_sem,simprocAttr] }) (λ_ _=>rfl) (λ_=>rfl) _ _ hWI2 hgood (by rw [hW])) (by rintro h' rfl;exact ze9 rfl)).mono ?_;rintro r h' ⟨rfl,rfl⟩;simp only [go_sem,aeq,aeq.aeqF,simprocAttr];refine' zc fx
 ·rw [heq,if_pos (bneP hc)]
 ·rw [heq,if_neg (bneN hc)]
@[go_sem] noncomputable def za5:Ent Tryz.prog 10:= .m2 zbG strT zv0
open Go Go.Proofs
open Go Go.Proofs
def zd9 (g m:Int):Txt:= [67,79,70,49]++putN g.toNat 2++putN m.toNat 2
def zgY (g m:Int):Txt:=padR (zd9 g m++zfg (sumOf 0 (zd9 g m)))
theorem zlH (g m:Int):(zd9 g m).length=8:=by
 rw [zd9,List.length_append,List.length_append,zK,zK];rfl
theorem zrs (g:Int) (m:Int) (h:zeA g m=true):ACall Tryz.prog 104 0 [.agg [.d (.int .i64 g),.d (.int .i64 m)]] [] (λr _=>r= .tup [.d (.str (zgY g m)),.d (.int .i64 0)]):=by refine fbod Tryz.func104 Tryz.ntmps104 (λbase=>?_);have hg:=geo_iff.1 h;have hw1:IntKind.u64.wrap g=g:=zad (by omega) (by omega);have hw2:IntKind.u64.wrap m=m:=zad (by omega) (by omega);have hl1:=zK g.toNat 2;have hl2:=zK m.toNat 2;have hhd:(67:UInt8)::79::70::49::putN g.toNat 2++putN m.toNat 2=zd9 g m:=rfl;have hhl:=zlH g m;have hs:=zgn 0 (zd9 g m) (by omega) (by omega);have hbl:=zcU (sumOf 0 (zd9 g m));refine' walkW (zL h hw1 hw2 @ziU @zkn (zL @List.length_cons.{0} @List.length_nil.{0} hl1 hl2 hhd (zB hhl hbl @List.length_append.{0}))) (za zdD <| za zat <| za zby <| za zaz <| za zez <| zb _);rfl
@[go_sem] noncomputable def zno:Ent Tryz.prog 104:= .ofL (consL (aggT (consL (intT .i64) (consL (intT .i64) nilL)) (λp=>p) (λp=>p) (λ_=>rfl)) nilL) (λ((g,m,_),_)=>zeA g m=true) (λ((g,m,_),_)=> .tup [.d (.str (zgY g m)),.d (.int .i64 0)]) (λ((g,m,_),_) hp=>⟨rfl,zrs g m hp⟩)
def csmall:Img:=⟨(dflush (play (dnew 112).1 (radd (dnew 112).1 (zak (pset p0 0 (zgY 20 8)).1 ⟨0,1⟩).1 0 1).1).1).1,⟨20,8⟩,⟨1,0⟩,[],false⟩
theorem zt5:ImgF csmall:=by
 have h:DiskF (dnew 112).1:=⟨by constructor<;>simp [dnew],rfl⟩
 have hp:=(h.play (radd (dnew 112).1 (zak (pset p0 0 (zgY 20 8)).1 ⟨0,1⟩).1 0 1).1).flush;exact ⟨⟨hp.ok,by decide,(λm hm=>by cases hm),(λm hm=>by cases hm)⟩,hp,by decide,by decide,by decide,by decide,by decide⟩
theorem zoV:ACall Tryz.prog 30 0 [] [] (λr _=>r=imgA csmall):=by
 have hd:DiskF (dnew 112).1:=⟨by constructor<;>simp [dnew],rfl⟩
 obtain ⟨c,hc⟩:∃c,c=csmall:=⟨_,rfl⟩
 rw [<-hc];unfold csmall at hc;obtain ⟨N,hN⟩:∃N,N=dnew 112:=⟨_,rfl⟩
 obtain ⟨S,hS⟩:∃S,S=pset p0 0 (zgY 20 8):=⟨_,rfl⟩
 have hp0:pfit S.1=true:=by rw [hS];exact zbU zaw
 obtain ⟨Q,hQ⟩:∃Q,Q=zak S.1 ⟨0,1⟩:=⟨_,rfl⟩
 have hp1:pfit Q.1=true:=by rw [hQ];exact zd2 hp0
 rw [<-hN] at hd;rw [<-hN,<-hS,<-hQ] at hc;have hdp:DP N.1 Q.1:=⟨hd,hp1⟩
 obtain ⟨A,hA⟩:∃A,A=radd N.1 Q.1 0 1:=⟨_,rfl⟩
 have hp2:pfit A.1=true:=by rw [hA];exact zlm hp1
 have hpo:=PlanOk.of hp2;have hpl:=(zay hp2).1;have hdo:=hd.ok;obtain ⟨L,hL⟩:∃L,L=play N.1 A.1:=⟨_,rfl⟩
 have hLf:DiskF L.1:=by rw [hL];exact hd.play A.1
 have hLo:=hLf.ok;have hLp:=hLf.puts;obtain ⟨F,hF⟩:∃F,F=dflush L.1:=⟨_,rfl⟩
 rw [<-hA,<-hL,<-hF] at hc;have hgeo:zeA 20 8=true:=by decide
 have hpo0:=PlanOk.of zaw;refine fbod Tryz.func30 Tryz.ntmps30 (λbase=>?_);refine' walkW (zL hN.symm hS.symm hQ.symm hA.symm hL.symm (zn hF.symm hc.symm)) (za zqg <| za zno <| za za2 <| za zcl <| za zaT <| za zcT <| za zbM <| zb _)
 ·rfl
 ·decide
 ·rw [hc];rfl
@[go_sem] noncomputable def zlI:Ent Tryz.prog 30:= .ofL nilL (λ_=>True) (λ_=>imgA csmall) (λ_ hp=>⟨rfl,zoV⟩)
end Go.Aw
