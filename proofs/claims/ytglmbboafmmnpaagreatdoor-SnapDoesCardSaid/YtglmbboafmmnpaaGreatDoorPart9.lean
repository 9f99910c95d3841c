/-
  Parts of the proof: SnapH, SnapI, WipeA, SmallA, ViewC, AuditB, AuditC, AuditD, AuditE, AuditF, SnapJ (short names; the readable texts lie in the repo, under wip).
-/
import Derived.Test.YtglmbboafmmnpaaGreatDoorPart8
import Derived.Test.YtglmbboafmmnpaaGreatDoorPart4
import Derived.Test.YtglmbboafmmnpaaGreatDoorPart7
set_option maxRecDepth 100000
set_option maxHeartbeats 2000000
set_option linter.unusedSimpArgs false
set_option linter.unusedVariables false
namespace Go.Aw
open Go Go.Proofs
theorem zsJ (p:Plan) (t:Root) (hp:pfit p=true∧0≤t.next∧t.next≤4294967295):AC 81 [planA p,rootA t] (.tup [planA (za7 p t).1,.d (.int .i64 (za7 p t).2)]):=by
 obtain ⟨hp,h2,h3⟩:=hp
 refine fbod Tryz.func81 Tryz.ntmps81 (fun base=>?_)
 obtain ⟨hl,h24,h64⟩:=zaz hp
 have hpo:PlanOk p:=⟨by omega,by omega⟩
 by_cases hk:zM t.l1=true
 ·obtain ⟨hk0,hk1⟩:=hostOk_iff.1 hk
  (have tk:=za zbL <| za zde <| za zbu <| zb Tryz.prog;have fx:=hk;repeat' (first|(refine hK _ ?_;clear hK K)|refine va fun K hK=>?_|refine vb ?_|refine wc ?_ ?_|exact we|refine fun (hc:_=(_:Bool))=>?_|clear hK K))
  rw [za7,if_neg (by rw [hk];exact fun h=>by cases h)]
 ·have hk:zM t.l1=false:=by simpa using hk
  (have tk:=za zbL <| za zde <| za zbu <| zb Tryz.prog;have fx:=hk;repeat' (first|(refine hK _ ?_;clear hK K)|refine va fun K hK=>?_|refine vb ?_|refine wc ?_ ?_|exact we|refine fun (hc:_=(_:Bool))=>?_|clear hK K))
  rw [za7,if_pos hk]
@[go_sem] noncomputable def ziH:Ent Tryz.prog 81:= .m2 zw zhw zsJ
theorem zuc (s:Snp) (_:True):AC 148 [snpA s] (.d (.bool (s.id==0))):=by
 refine fbod Tryz.func148 Tryz.ntmps148 (fun base=>?_)
 (repeat' (first|(refine hK _ ?_;clear hK K)|refine wa fun K hK=>?_|refine wb ?_|refine wc ?_ ?_|exact we|clear hK K))
@[go_sem] noncomputable def zq5:Ent Tryz.prog 148:= .m1 zfo zuc
theorem zud (s:Snp) (n:Txt):ACall Tryz.prog 150 0 [snpA s,.dp [.d (.str n)]] [] (fun r _=>r= .d (.bool (decide (0<s.id)&&s.name==n))):=by
 refine fbod Tryz.func150 Tryz.ntmps150 (fun base=>?_)
 cases hz:decide (0<s.id) with
 |true=>(have fx:=hz;repeat' (first|(refine hK _ ?_;clear hK K)|refine wa fun K hK=>?_|refine wb ?_|refine wc ?_ ?_|exact we|refine fun (hc:_=(_:Bool))=>?_|clear hK K))
 |false=>(have fx:=hz;repeat' (first|(refine hK _ ?_;clear hK K)|refine wa fun K hK=>?_|refine wb ?_|refine wc ?_ ?_|exact we|refine fun (hc:_=(_:Bool))=>?_|clear hK K))
@[go_sem] noncomputable def zq6:Ent Tryz.prog 150:= .ofL (consL zfo (consL (dpT (consL strT nilL) (fun p=>p) (fun p=>p) (fun _=>rfl)) nilL)) (fun (s,(n,_),_)=>True) (fun (s,(n,_),_)=> .d (.bool (decide (0<s.id)&&s.name==n))) (fun (s,(n,_),_) hp=>⟨rfl,zud s n⟩)
theorem zq7 (l:List Snp) (hl:l.length≤9223372036854775807):ACall Tryz.prog 146 0 [.d (.sl 3 (l.map snpD)),.fn (.func 148) [] []] [] (fun r _=>r= .d (.int .i64 (idxP (fun s=>s.id==0) l 0))):=by
 refine bod Tryz.func146 Tryz.ntmps146 (fun base=>?_)
 (repeat' (first|(refine hK _ ?_;clear hK K)|refine wa fun K hK=>?_|refine wb ?_|refine wc ?_ ?_|exact we|refine fun (hc:_=(_:Bool))=>?_|clear hK K))
 refine zo (fun q:Idst (fun s=>s.id==0) l=>⟨[(0,true,.d (.sl 3 (l.map snpD))),(1,true,.fn (.func 148) [] []),(7,true,.d (.int .i64 l.length)),(8,true,.d (.int .i64 q.1))],[],some []⟩) (fun q=>l.length - q.1) ⟨0,Nat.zero_le _,rfl⟩ le1 (fun q=>?_)
 obtain ⟨i,hi,hf⟩:=q
 simp only at hi hf ⊢
 rcases zT snpD l i hi with ⟨⟨m,s,u⟩,hq,hlt,hcmp,hrow,hdr,htk⟩|⟨hend,hcmp⟩
 ·simp only [snpD] at hrow
  have hwi:=zp (i:=i) (by omega)
  (have tk:=za zq5 <| zb Tryz.prog;have fx:=(⟨hcmp,hrow⟩:_∧_);repeat' (first|(refine hK _ ?_;clear hK K)|refine wa fun K hK=>?_|refine wb ?_|refine wc ?_ ?_|exact we|refine fun (hc:_=(_:Bool))=>?_|clear hK K))
  ·rw [hf,hdr,idxP,if_pos (by simpa using hc)]
  ·exact ⟨⟨i+1,by omega,by rw [hf,hdr,idxP,if_neg (by simpa using hc)]⟩,lew,by simp;omega⟩
 ·(have tk:=zb Tryz.prog;have fx:=hcmp;repeat' (first|(refine hK _ ?_;clear hK K)|refine wa fun K hK=>?_|refine wb ?_|refine wc ?_ ?_|exact we|refine fun (hc:_=(_:Bool))=>?_|clear hK K))
  rw [hf,hend,List.drop_length]
  rfl
@[go_sem] noncomputable def zmz:Ent Tryz.prog 146:= .ofL (consL (slT 3 snpD zdf) (consL (fnT 148 nilL) nilL)) (fun (l,_,_)=>l.length≤9223372036854775807) (fun (l,_,_)=> .d (.int .i64 (idxP (fun s=>s.id==0) l 0))) (fun (l,_,_) hp=>⟨rfl,zq7 l hp⟩)
theorem zoS (l:List Snp) (n:Txt) (hl:l.length≤9223372036854775807):ACall Tryz.prog 146 0 [.d (.sl 3 (l.map snpD)),.fn (.func 150) [] [.dp [.d (.str n)]]] [] (fun r _=>r= .d (.int .i64 (idxP (fun s=>decide (0<s.id)&&s.name==n) l 0))):=by
 refine bod Tryz.func146 Tryz.ntmps146 (fun base=>?_)
 (repeat' (first|(refine hK _ ?_;clear hK K)|refine wa fun K hK=>?_|refine wb ?_|refine wc ?_ ?_|exact we|refine fun (hc:_=(_:Bool))=>?_|clear hK K))
 refine zo (fun q:Idst (fun s=>decide (0<s.id)&&s.name==n) l=>⟨[(0,true,.d (.sl 3 (l.map snpD))),(1,true,.fn (.func 150) [] [.dp [.d (.str n)]]),(7,true,.d (.int .i64 l.length)),(8,true,.d (.int .i64 q.1))],[],some []⟩) (fun q=>l.length - q.1) ⟨0,Nat.zero_le _,rfl⟩ le1 (fun q=>?_)
 obtain ⟨i,hi,hf⟩:=q
 simp only at hi hf ⊢
 rcases zT snpD l i hi with ⟨⟨m,s,u⟩,hq,hlt,hcmp,hrow,hdr,htk⟩|⟨hend,hcmp⟩
 ·simp only [snpD] at hrow
  have hwi:=zp (i:=i) (by omega)
  (have tk:=za zq6 <| zb Tryz.prog;have fx:=(⟨hcmp,hrow⟩:_∧_);repeat' (first|(refine hK _ ?_;clear hK K)|refine wa fun K hK=>?_|refine wb ?_|refine wc ?_ ?_|exact we|refine fun (hc:_=(_:Bool))=>?_|clear hK K))
  ·rw [hf,hdr,idxP,if_pos (by simpa using hc)]
  ·exact ⟨⟨i+1,by omega,by rw [hf,hdr,idxP,if_neg (by simpa using hc)]⟩,lew,by simp;omega⟩
 ·(have tk:=zb Tryz.prog;have fx:=hcmp;repeat' (first|(refine hK _ ?_;clear hK K)|refine wa fun K hK=>?_|refine wb ?_|refine wc ?_ ?_|exact we|refine fun (hc:_=(_:Bool))=>?_|clear hK K))
  rw [hf,hend,List.drop_length]
  rfl
@[go_sem] noncomputable def zk2:Ent Tryz.prog 146:= .ofL (consL (slT 3 snpD zdf) (consL (fnT 150 (consL (dpT (consL strT nilL) (fun p=>p) (fun p=>p) (fun _=>rfl)) nilL)) nilL)) (fun (l,((n,_),_),_)=>l.length≤9223372036854775807) (fun (l,((n,_),_),_)=> .d (.int .i64 (idxP (fun s=>decide (0<s.id)&&s.name==n) l 0))) (fun (l,((n,_),_),_) hp=>⟨rfl,zoS l n hp⟩)
theorem zq8 (l:List Snp) (n:Txt) (hl:l.length≤9223372036854775807):ACall Tryz.prog 149 0 [.d (.sl 3 (l.map snpD)),.fn (.func 150) [] [.dp [.d (.str n)]]] [] (fun r _=>r= .d (.bool (l.any (fun s=>decide (0<s.id)&&s.name==n)))):=by
 refine bod Tryz.func149 Tryz.ntmps149 (fun base=>?_)
 (have tk:=za zk2 <| zb Tryz.prog;repeat' (first|(refine hK _ ?_;clear hK K)|refine wa fun K hK=>?_|refine wb ?_|refine wc ?_ ?_|exact we|clear hK K))
 rw [zhh]
@[go_sem] noncomputable def zmA:Ent Tryz.prog 149:= .ofL (consL (slT 3 snpD zdf) (consL (fnT 150 (consL (dpT (consL strT nilL) (fun p=>p) (fun p=>p) (fun _=>rfl)) nilL)) nilL)) (fun (l,((n,_),_),_)=>l.length≤9223372036854775807) (fun (l,((n,_),_),_)=> .d (.bool (l.any (fun s=>decide (0<s.id)&&s.name==n)))) (fun (l,((n,_),_),_) hp=>⟨rfl,zq8 l n hp⟩)
def srm (a:Ws) (n:Txt):Int×Int:=
 if zax n=false then (0,19) else if a.L.any (fun s=>decide (0<s.id)&&s.name==n) then (0,20) else if idxP (fun s=>s.id==0) a.L 0<0 then (0,17)
 else if a.R.next=0∨a.R.next=4294967295 then (0,10) else (idxP (fun s=>s.id==0) a.L 0,0)
theorem zsK (a:Ws) (n:Txt) (hl:a.L.length≤8) (hn:n.length≤9223372036854775807):ACall Tryz.prog 74 60 [.vp 21 0,.d (.str n)] [(21,.var (wkS a))] (fun r h'=>r= .tup [.d (.int .i64 (srm a n).1),.d (.int .i64 (srm a n).2)]∧h'= [(21,.var (wkS a))]):=by
 refine zR (fun i=>decide (i=21)) ?_
 have hnz:=zf0 n
 have hn19:zax n=false→(nameS n).2=19:=by intro h;rw [nameS,h];rfl
 refine bod Tryz.func74 Tryz.ntmps74 (fun base=>?_)
 obtain ⟨Z,hZ⟩:∃Z,Z=srm a n:=⟨_,rfl⟩
 rw [← hZ]
 rw [srm] at hZ
 (have tk:=za zhj <| za zmz <| za zmA <| zb Tryz.prog;have fx:=hnz;repeat' (first|(refine hK _ ?_;clear hK K)|refine wa fun K hK=>?_|refine wb ?_|refine wc ?_ ?_|refine fun (nb:Bool) (hnb:nb=true→_)=>?_|exact we|refine fun (hc:_=(_:Bool))=>?_|clear hK K))
 ·simp only [Bool.not_eq_true'] at hc
  rw [hZ,if_pos hc,hn19 hc]
 ·rename_i h1
  simp only [Bool.not_eq_false'] at h1
  rw [hZ,if_neg (by rw [h1];decide),if_pos hc]
 ·rename_i h1 h2
  simp only [Bool.not_eq_false'] at h1
  rw [hZ,if_neg (by rw [h1];decide),if_neg (by rw [h2];decide),if_pos (of_decide_eq_true hc)]
 ·rename_i h1 h2 h3
  simp only [Bool.not_eq_false'] at h1
  rw [hZ,if_neg (by rw [h1];decide),if_neg (by rw [h2];decide),if_neg (of_decide_eq_false h3),if_pos (by simpa using hc)]
 ·rename_i h1 h2 h3
  simp only [Bool.not_eq_false'] at h1
  rw [hZ,if_neg (by rw [h1];decide),if_neg (by rw [h2];decide),if_neg (of_decide_eq_false h3),if_neg (by simpa using hc)]
def cSet:Stp:=⟨80,[],[.dp [.vp 21 0]]⟩
attribute [go_sem] cSet
def fSet (a:Ws):Ws:= { a with q:=(za7 a.q ⟨a.R.l1,IntKind.u32.wrap (a.R.next+1)⟩).1,e:=(za7 a.q ⟨a.R.l1,IntKind.u32.wrap (a.R.next+1)⟩).2 }
theorem zsL:Good (cSet,fSet):=by
 intro a hw he
 have hq:=hw.2
 have hr0:0≤IntKind.u32.wrap (a.R.next+1):=by rw [IntKind.wrap_u32];omega
 have hr1:IntKind.u32.wrap (a.R.next+1)≤4294967295:=by rw [IntKind.wrap_u32];omega
 refine ⟨⟨hw.1,ze6 hw.2⟩, { a with q:=(za7 a.q ⟨a.R.l1,IntKind.u32.wrap (a.R.next+1)⟩).1 },_,rfl,?_,by simp [cSet,AV.idsL,AV.ids]⟩
 simp only [cSet,List.nil_append]
 refine zR (fun i=>decide (i<60)) ?_
 refine bod Tryz.func80 Tryz.ntmps80 (fun base=>?_)
 (have tk:=za ziH <| za zeG <| zb Tryz.prog;repeat' (first|(refine hK _ ?_;clear hK K)|refine va fun K hK=>?_|refine vb ?_|refine wc ?_ ?_|refine fun (nb:Bool) (hnb:nb=true→_)=>?_|exact we|clear hK K))
def cr1 (a:Ws) (n:Txt):Int×Ws:=if a.e≠0 then (0,a) else ((srm a n).1, { a with e:=(srm a n).2 })
def cr2 (a:Ws):Int×Ws:=if a.e≠0 then (0,a) else ((rtake a.x.disk a.q a.x.geom).2.1, { a with q:=(rtake a.x.disk a.q a.x.geom).1,e:=(rtake a.x.disk a.q a.x.geom).2.2 })
def screL (a:Ws) (k:Int) (s:Snp):List (Stp×(Ws→Ws)):= [(cCopy a.R.l1 s.l1,fCopy a.R.l1 s.l1),(zer a.R.l1 1,zd5 a.R.l1 1),(cPut k s,fPut k s),(cSet,fSet),(cDone,fDone)]
def screW (x:Img) (n:Txt):Ws:=wrun (screL (cr2 (cr1 (sbw x true) n).2).2 (cr1 (sbw x true) n).1 ⟨(sbw x true).R.next,(cr2 (cr1 (sbw x true) n).2).1,n⟩) (cr2 (cr1 (sbw x true) n).2).2
theorem zu3 {x:Img} {n:Txt} :zbW x n=if (screW x n).e≠0 then ((screW x n).x,0,(screW x n).e) else ((screW x n).x,(sbw x true).R.next,0):=by
 rw [zhK]
 cases hb:x.broken with
 |true=>
  have h1:sbw x true=⟨x,⟨0,0⟩,[],p0,24⟩:=by rw [sbw,hb];rfl
  have h2:cr1 (sbw x true) n=(0,sbw x true):=by rw [cr1,if_pos (by rw [h1];show (24:Int)≠0;decide)]
  have h3:cr2 (sbw x true)=(0,sbw x true):=by rw [cr2,if_pos (by rw [h1];show (24:Int)≠0;decide)]
  have h4:screW x n=sbw x true:=by rw [screW,h2];simp only;rw [h3];exact zcY _ _ (by rw [h1];show (24:Int)≠0;decide)
  rw [h4,h1,if_pos rfl,if_pos (by show (24:Int)≠0;decide)]
 | false=>
  have h1:sbw x true=⟨x,(sbeg x.disk).1,(sbeg x.disk).2.1,p0,(sbeg x.disk).2.2⟩:=by rw [sbw,hb];rfl
  have hfit:=zsD x.disk
  rw [screW,h1,if_neg (by decide)]
  obtain ⟨R,hR⟩:∃R,R=(sbeg x.disk).1:=⟨_,rfl⟩
  obtain ⟨L,hL⟩:∃L,L=(sbeg x.disk).2.1:=⟨_,rfl⟩
  obtain ⟨e,hE⟩:∃e,e=(sbeg x.disk).2.2:=⟨_,rfl⟩
  rw [← hL] at hfit
  rw [← hR,← hL,← hE]
  have hany:L.any (fun s=>decide (0<s.id)&&s.name==n)=L.any (fun s=>s.id !=0&&s.name==n):=by
   rw [Bool.eq_iff_iff,List.any_eq_true,List.any_eq_true]
   constructor
   ·rintro ⟨s,hs,h⟩
    refine ⟨s,hs,?_⟩
    rw [Bool.and_eq_true,decide_eq_true_eq] at h
    rw [Bool.and_eq_true,bne_iff_ne]
    exact ⟨by omega,h.2⟩
   ·rintro ⟨s,hs,h⟩
    refine ⟨s,hs,?_⟩
    have:=(hfit s hs).1
    rw [Bool.and_eq_true,bne_iff_ne] at h
    rw [Bool.and_eq_true,decide_eq_true_eq]
    exact ⟨by omega,h.2⟩
  by_cases he:e=0
  ·rw [if_neg (by simpa using he)]
   have h2:cr1 ⟨x,R,L,p0,e⟩ n=((srm ⟨x,R,L,p0,e⟩ n).1,⟨x,R,L,p0,(srm ⟨x,R,L,p0,e⟩ n).2⟩):=by rw [cr1,if_neg (by simpa using he)]
   rw [h2]
   obtain ⟨M,hM⟩:∃M,M=srm ⟨x,R,L,p0,e⟩ n:=⟨_,rfl⟩
   rw [← hM]
   rw [srm] at hM
   simp only [hany] at hM
   rw [zfz]
   have bad:∀z:Int,z≠0→(wrun (screL (cr2 ⟨x,R,L,p0,z⟩).2 0 ⟨R.next,(cr2 ⟨x,R,L,p0,z⟩).1,n⟩) (cr2 ⟨x,R,L,p0,z⟩).2)=⟨x,R,L,p0,z⟩:=fun z hz=>by
    have h3:cr2 ⟨x,R,L,p0,z⟩=(0,⟨x,R,L,p0,z⟩):=by rw [cr2,if_pos hz]
    rw [h3]
    exact zcY _ _ hz
   by_cases c1:zax n=false
   ·rw [if_pos c1] at hM ⊢
    rw [hM,bad 19 (by decide),if_pos (by show (19:Int)≠0;decide)]
   rw [if_neg c1] at hM ⊢
   by_cases c2:L.any (fun s=>s.id !=0&&s.name==n)=true
   ·rw [if_pos c2] at hM ⊢
    rw [hM,bad 20 (by decide),if_pos (by show (20:Int)≠0;decide)]
   rw [if_neg c2] at hM ⊢
   by_cases c3:idxP (fun s=>s.id==0) L 0<0
   ·rw [if_pos c3] at hM ⊢
    rw [hM,bad 17 (by decide),if_pos (by show (17:Int)≠0;decide)]
   rw [if_neg c3] at hM ⊢
   by_cases c4:R.next=0∨R.next=4294967295
   ·rw [if_pos c4] at hM ⊢
    rw [hM,bad 10 (by decide),if_pos (by show (10:Int)≠0;decide)]
   rw [if_neg c4] at hM ⊢
   have hRr:0≤R.next∧R.next≤4294967295:=by rw [hR];exact (ze5 x.disk p0).2.2
   have hwn:IntKind.u32.wrap (R.next+1)=R.next+1:=zeD (by omega) (by omega)
   rw [hM]
   simp only [cr2,screL,wrun,wstep,zd5,fCopy,fPut,fSet,fDone,zeH,zfy,zfx,zfw,zfv,hwn,ne_eq,not_true_eq_false,if_false]
   repeat' split
   all_goals simp_all
  ·have h2:cr1 ⟨x,R,L,p0,e⟩ n=(0,⟨x,R,L,p0,e⟩):=by rw [cr1,if_pos he]
   have h3:cr2 ⟨x,R,L,p0,e⟩=(0,⟨x,R,L,p0,e⟩):=by rw [cr2,if_pos he]
   rw [h2]
   simp only
   rw [h3,zcY _ _ he,if_pos he,if_pos he]
theorem zu4 {a:Ws} (h:WI a) (n:Txt):WI (cr1 a n).2:=by
 unfold cr1;split<;>exact h
theorem zu5 {a:Ws} (h:WI a):WI (cr2 a).2:=by
 unfold cr2;split
 ·exact h
 ·exact ⟨h.1,(h.dp.rtake _).p⟩
theorem sbw_R (x:Img) (ch:Bool):0≤(sbw x ch).R.next∧(sbw x ch).R.next≤4294967295:=by
 unfold sbw
 split
 ·show (0:Int)≤0∧(0:Int)≤4294967295
  decide
 ·exact (ze5 x.disk p0).2.2
theorem zsM (x:Img) (name:Txt) (hp:ImgF x∧name.length≤9223372036854775807):AC 28 [imgA x,.d (.str name)] (.tup [imgA (zbW x name).1,.d (.int .u32 (zbW x name).2.1),.d (.int .i64 (zbW x name).2.2)]):=by
 obtain ⟨h,hn⟩:=hp
 refine fbod Tryz.func28 Tryz.ntmps28 (fun base=>?_)
 (repeat' (first|(refine hK _ ?_;clear hK K)|refine wa fun K hK=>?_|refine wb ?_|refine wc ?_ ?_|refine fun (nb:Bool) (hnb:nb=true→_)=>?_|exact we|refine fun (hc:_=(_:Bool))=>?_|clear hK K))
 refine (ACall.own (fl':=0) (zeq x true h) rfl rfl (by omega) (by rintro r h' ⟨rfl,rfl⟩;rfl)).mono ?_
 rintro r h' ⟨h1',⟨rfl,rfl⟩,rfl⟩
 have hLl:=sbw_L x true
 have hRn:=sbw_R x true
 have hWI:=ztf h true
 have heq:=zu3 (x:=x) (n:=name)
 rw [screW] at heq
 obtain ⟨a,ha⟩:∃a,a=sbw x true:=⟨_,rfl⟩
 rw [← ha] at hLl hRn hWI heq ⊢
 simp only [go_sem,aeq,aeq.aeqF,simprocAttr,List.singleton_append]
 (repeat' ((fail_if_success refine hds 4 (by rfl) ?_);first|(refine hK _ ?_;clear hK K)|refine va fun K hK=>?_|refine vb ?_|refine wc ?_ ?_|refine fun (nb:Bool) (hnb:nb=true→_)=>?_|exact we|refine fun (hc:_=(_:Bool))=>?_|clear hK K))
 refine zaQ 22 rfl ?_;simp only [go_sem,aeq,aeq.aeqF,simprocAttr]
 refine zaQ 1 rfl ?_;simp only [go_sem,aeq,aeq.aeqF,simprocAttr]
 (repeat' (first|(refine hK _ ?_;clear hK K)|refine wa fun K hK=>?_|refine wb ?_|refine wc ?_ ?_|refine fun (nb:Bool) (hnb:nb=true→_)=>?_|exact we|refine fun (hc:_=(_:Bool))=>?_|clear hK K))
 obtain ⟨B,hB⟩:∃B:Int→Int→Ws→AHeap,B=fun k l1 b=> [(31,.var [.d (.int .i64 k)]),(30,.var [.d (.int .u32 a.R.next),.d (.int .i64 l1),.d (.str name)]),(21,.var (wkS b)),(2,.var img0),(0,.var (imgV x))]:=⟨_,rfl⟩
 obtain ⟨l,hll⟩:∃l:List Stp,l= [⟨73,[],[.dp [.vp 21 0],.dp [.d (.str name)],.vp 31 0]⟩,⟨75,[],[.dp [.vp 21 0],.vp 30 0]⟩]:=⟨_,rfl⟩
 have hok:∀k t b,SOk 50 l (B k t b):=by intro k t b;rw [hB,hll];exact {}
 have hse:∀k t b e,hset (B k t b) 21 (.var (wkS { b with e:=e }))=B k t { b with e:=e } :=by intro k t b e;rw [hB];rfl
 have hge:∀k t b,hget (B k t b) 21=some (.var (wkS b)):=by intro k t b;rw [hB];rfl
 have hWI1:=zu4 hWI name
 have hWI2:=zu5 hWI1
 have fin2:∀k c b,(k,b)=c→WI b→Runs 50 l (fun h'=>h'=B k (cr2 b).1 (cr2 b).2) [⟨75,[],[.dp [.vp 21 0],.vp 30 0]⟩] (B k 0 b):=by
  intro k c b _ hb
  by_cases he:b.e=0
  ·have hdp:=hb.dp
   have hho:=hb.1.host
   have hZ:cr2 b=((rtake b.x.disk b.q b.x.geom).2.1, { b with q:=(rtake b.x.disk b.q b.x.geom).1,e:=(rtake b.x.disk b.q b.x.geom).2.2 }):=by rw [cr2,if_neg (by simpa using he)]
   refine ⟨hok _ _ _,_,_,hge _ _ _,fun h=>absurd he h,fun _=>(zdY (v:= .d (.int .i64 (rtake b.x.disk b.q b.x.geom).2.2)) (H':=B k (rtake b.x.disk b.q b.x.geom).2.1 { b with q:=(rtake b.x.disk b.q b.x.geom).1 }) ?_ (by rw [hB];rfl) (by rw [hB];exact zap rfl)).mono ?_⟩
   ·rw [hB]
    refine bod Tryz.func75 Tryz.ntmps75 (fun base=>?_)
    (have tk:=za ziH <| za zeG <| zb Tryz.prog;repeat' (first|(refine hK _ ?_;clear hK K)|refine va fun K hK=>?_|refine vb ?_|refine wc ?_ ?_|refine fun (nb:Bool) (hnb:nb=true→_)=>?_|exact we|clear hK K))
   rintro v h' ⟨rfl,rfl⟩
   refine ⟨_,_,_,rfl,hge _ _ _,?_⟩
   rw [hse]
   exact ⟨hok _ _ _,by rw [hZ]⟩
  ·have hZ:cr2 b=(0,b):=by rw [cr2,if_pos he]
   exact Runs.skip (hok _ _ _) (hge _ _ _) he (by rw [hZ]) _
 have fin:Runs 50 l (fun h'=>h'=B (cr1 a name).1 (cr2 (cr1 a name).2).1 (cr2 (cr1 a name).2).2) l (B 0 0 a):=by
  conv=>arg 4;rw [hll]
  by_cases he:a.e=0
  ·have hZ:cr1 a name=((srm a name).1, { a with e:=(srm a name).2 }):=by rw [cr1,if_neg (by simpa using he)]
   refine ⟨hok _ _ _,_,_,hge _ _ _,fun h=>absurd he h,fun _=>(zdY (v:= .d (.int .i64 (srm a name).2)) (H':=B (srm a name).1 0 a) ?_ (by rw [hB];rfl) (by rw [hB];exact zap rfl)).mono ?_⟩
   ·rw [hB]
    refine bod Tryz.func73 Tryz.ntmps73 (fun base=>?_)
    (have tk:=zb Tryz.prog;repeat' (first|(refine hK _ ?_;clear hK K)|refine wa fun K hK=>?_|refine wb ?_|refine wc ?_ ?_|exact we|clear hK K))
    refine (zfj (zsK a name hLl hn) (by decide) rfl (by simp [AObj.ids,AV.idsL,AV.ids,wkV]) (by simp [AV.idsL,AV.ids])).mono ?_
    rintro r h' ⟨rfl,rfl⟩
    simp only [go_sem,aeq,aeq.aeqF,simprocAttr,hset]
    (have tk:=zb Tryz.prog;repeat' (first|(refine hK _ ?_;clear hK K)|refine wa fun K hK=>?_|refine wb ?_|refine wc ?_ ?_|exact we|clear hK K))
   rintro v h' ⟨rfl,rfl⟩
   refine ⟨_,_,_,rfl,hge _ _ _,?_⟩
   rw [hse]
   rw [hZ] at hWI1 ⊢
   exact fin2 _ _ _ rfl hWI1
  ·have hZ:cr1 a name=(0,a):=by rw [cr1,if_pos he]
   have hZ2:cr2 a=(0,a):=by rw [cr2,if_pos he]
   exact Runs.skip (hok _ _ _) (hge _ _ _) he (by rw [hZ,hZ2]) _
 rw [hll,hB] at fin
 refine (zfA (fl:=50) _ (by simp) (Nat.zero_le _) fin (by rintro h' rfl;exact zcu rfl)).mono ?_
 rintro r h' ⟨rfl,rfl⟩
 clear fin fin2 hok hse hge hll hB
 obtain ⟨k,hk⟩:∃k,k=(cr1 a name).1:=⟨_,rfl⟩
 obtain ⟨b,hb⟩:∃b,b=cr2 (cr1 a name).2:=⟨_,rfl⟩
 rw [← hk,← hb] at heq ⊢
 rw [← hb] at hWI2
 simp only [go_sem,aeq,aeq.aeqF,simprocAttr]
 (have tk:=zb Tryz.prog;repeat' ((fail_if_success refine hds 5 (by rfl) ?_);first|(refine hK _ ?_;clear hK K)|refine wa fun K hK=>?_|refine wb ?_|refine wc ?_ ?_|refine fun (nb:Bool) (hnb:nb=true→_)=>?_|exact we|refine fun (hc:_=(_:Bool))=>?_|clear hK K))
 (have tk:=zb Tryz.prog);repeat' (first|((first|refine zv noTab [0,2000077,2000078,2000079] (zb _) mx (fun K hK=>?_)|(refine ga ?_;intro K hK)|refine zJ noTab [0,2000077,2000078,2000079] (zb _) mx ?_|refine gb ?_);simp only [go_sem,aeq,aeq.aeqF,simprocAttr,Tryz.results28])|refine zj (fun K hK=>?_)|refine sc ?_|refine zi rfl (fun hc=>?_) (fun hc=>?_)|(refine hK _ ?_;clear hK K)|refine fun (nb:Bool) (hnb:nb=true→_)=>?_|with_reducible refine And.intro ?_ ?_|(refine (show zaq _ _=true from ?_);kernel_rfl)|(refine (show zgm _ _=true from ?_);kernel_rfl)|omega|assumption|clear hK K)
 refine ⟨21,40,.var (wkS b.2),_,rfl,by decide,by simp [AObj.ids,AV.idsL,AV.ids,wkV],by simp [AV.idsL,AV.ids],znx b.2 b.2.R.l1 b.1,?_⟩
 refine ⟨21,40,.var (wkS b.2),_,rfl,by decide,by simp [AObj.ids,AV.idsL,AV.ids,wkV],by simp [AV.idsL,AV.ids],zfB b.2 b.2.R.l1 1,?_⟩
 refine ⟨21,40,.var (wkS b.2),_,rfl,by decide,by simp [AObj.ids,AV.idsL,AV.ids,wkV],by simp [AV.idsL,AV.ids],zq0 b.2 k ⟨a.R.next,b.1,name⟩,?_⟩
 simp only [go_sem,aeq,aeq.aeqF,simprocAttr]
 (have tk:=zb Tryz.prog);repeat' (first|((first|refine zv noTab [0,2000077,2000078,2000079] (zb _) mx (fun K hK=>?_)|(refine ga ?_;intro K hK)|refine zJ noTab [0,2000077,2000078,2000079] (zb _) mx ?_|refine gb ?_);simp only [go_sem,aeq,aeq.aeqF,simprocAttr,Tryz.results28])|refine zj (fun K hK=>?_)|refine sc ?_|refine zi rfl (fun hc=>?_) (fun hc=>?_)|(refine hK _ ?_;clear hK K)|refine fun (nb:Bool) (hnb:nb=true→_)=>?_|with_reducible refine And.intro ?_ ?_|(refine (show zaq _ _=true from ?_);kernel_rfl)|(refine (show zgm _ _=true from ?_);kernel_rfl)|omega|assumption|clear hK K)
 have hgood:∀p∈screL b.2 k ⟨a.R.next,b.1,name⟩,Good p:=by
  intro p hp
  simp only [screL,List.mem_cons,List.not_mem_nil,or_false] at hp
  rcases hp with rfl|rfl|rfl|rfl|rfl
  ·exact zk0 _ _
  ·exact zeK _ _
  ·exact zny _ _ hRn.1 hRn.2 hn
  ·exact zsL
  ·exact zhN
 obtain ⟨W,hW⟩:∃W,W=wrun (screL b.2 k ⟨a.R.next,b.1,name⟩) b.2:=⟨_,rfl⟩
 rw [← hW] at heq
 refine (zfA (fl:=50) (K:=fun h'=>h'= [(31,.var [.d (.int .i64 k)]),(30,.var [.d (.int .u32 a.R.next),.d (.int .i64 b.1),.d (.str name)]),(21,.var (wkS W)),(2,.var img0),(0,.var (imgV x))]) ((screL b.2 k ⟨a.R.next,b.1,name⟩).map (·.1)) (by simp [screL]) (Nat.zero_le _) (Runs.chain (fun w=> [(31,.var [.d (.int .i64 k)]),(30,.var [.d (.int .u32 a.R.next),.d (.int .i64 b.1),.d (.str name)]),(21,.var (wkS w)),(2,.var img0),(0,.var (imgV x))]) (fun a=> { is:=by simp only [screL,inH,AV.ids,AV.idsL,AV.idsR,List.map_cons,List.map_nil,stR,hget,go_sem,simprocAttr] }) (fun _ _=>rfl) (fun _=>rfl) _ _ hWI2 hgood (by rw [hW])) (by rintro h' rfl;exact zcu rfl)).mono ?_
 rintro r h' ⟨rfl,rfl⟩
 simp only [go_sem,aeq,aeq.aeqF,simprocAttr]
 (have tk:=zb Tryz.prog;repeat' (first|(refine hK _ ?_;clear hK K)|refine va fun K hK=>?_|refine vb ?_|refine wc ?_ ?_|refine fun (nb:Bool) (hnb:nb=true→_)=>?_|exact we|refine fun (hc:_=(_:Bool))=>?_|clear hK K))
 ·rw [heq,if_pos (bneP hc)]
 ·rw [heq,if_neg (bneN hc)]
@[go_sem] noncomputable def zgb:Ent Tryz.prog 28:= .m2 zbp strT zsM
open Go Go.Proofs
theorem znz {d:Disk} {p:Plan} :∀ (m i:Nat) (l:List Snp),(zbM d p m i l).2=0→(zbM d p m i l).1.length=l.length+m
 |0,i,l,_=>rfl
 | m+1,i,l,h=>by
  rw [zbM] at h ⊢
  split at h
  ·rename_i he;exact absurd h he
  ·rename_i he
   rw [if_neg he]
   split at h
   ·rename_i ho
    rw [if_pos ho,znz m _ _ h,List.length_append,List.length_singleton]
    omega
   ·cases h
theorem zmB (d:Disk) (p:Plan) (h:DP d p) (h0:(snaps d p).2=0):ACall Tryz.prog 193 10 [diskA d,planA p,.d (.int .i64 8),.fn (.func 194) [] []] [] (fun r h'=>r= .tup [.osl 12 3 8 0 8,.d (.int .i64 0)]∧h'= [(12,.arr 3 ((snaps d p).1.map snpD))]∧(snaps d p).1.length=8):=by
 refine zR (fun i=>decide (i=12)) ?_
 refine bod Tryz.func193 Tryz.ntmps193 (fun base=>?_)
 (have tk:=za zaY <| za zaL <| zb Tryz.prog;repeat' (first|(refine hK _ ?_;clear hK K)|refine wa fun K hK=>?_|refine wb ?_|refine wc ?_ ?_|refine fun (nb:Bool) (hnb:nb=true→_)=>?_|exact we|refine fun (hc:_=(_:Bool))=>?_|clear hK K))
 refine zcd 10 3 rfl ?_
 simp only [fresh,top,hget, ↓reduceIte]
 refine zo (fun q: { q:Nat×List Snp // q.1≤8∧q.2.length=q.1∧snaps d p=zbM d p (8 - q.1) q.1 q.2 } =>⟨[(3,true,.fn (.func 194) [] []),(4,true,.vp 10 0),(5,true,.vp 11 0),(10,true,.osl 12 3 q.1.1 0 q.1.1),(14,true,.d (.int .i64 8)),(15,true,.d (.int .i64 q.1.1))],[(12,.arr 3 (q.1.2.map snpD)),(11,(.var [.d (.sl 1 (p.targets.map intD)),.d (.sl 1 (p.texts.map strD))])),(10,(.var [.d (.str d.data),.d (.sl 2 (d.cache.map putD)),.d (.int .i64 d.fuse),.d (.bool d.off),.d (.sl 1 (d.bad.map intD))]))],some []⟩) (fun q=>8 - q.1.1) ⟨(0,[]),Nat.zero_le 8,rfl,rfl⟩ le1 (fun q=>?_)
 obtain ⟨⟨i,l⟩,hi,hll,hf⟩:=q
 simp only at hi hll hf ⊢
 rcases Nat.lt_or_ge i 8 with hlt|hge
 ·have hcmp:decide ((i:Int)<8)=true:=decide_eq_true (by omega)
  have hwi:=zp (i:=i) (by omega)
  have hlm:(l.map snpD).length=i:=by rw [List.length_map,hll]
  have hsg:=zkU (d:=d) (p:=p) (i:=i)
  rw [ze3 hlt,zbM] at hf
  obtain ⟨S,hS⟩:∃S,S=sgetA d p (2+(i:Int) / 4) ((i:Int) % 4*16):=⟨_,rfl⟩
  rw [← hS] at hsg
  by_cases he:(plook d p (2+((i / 4:Nat):Int))).2=0
  ·rw [if_neg (by simpa using he)] at hf hsg
   cases ho:snpOk (slotB (plook d p (2+((i / 4:Nat):Int))).1 i) with
   |true=>
    rw [ho,if_pos rfl] at hf hsg
    have hb:(S.2 !=0)=false:=by rw [hsg];rfl
    have hf2:snaps d p=zbM d p (8 - (i+1)) (i+1) (l++ [S.1]):=by rw [hf,hsg]
    (have tk:=za zaY <| za zaL <| zb Tryz.prog;have fx:=(⟨hcmp,hS.symm,hb,hlm⟩:_∧_∧_∧_);repeat' (first|(refine hK _ ?_;clear hK K)|refine va fun K hK=>?_|refine vb ?_|refine wc ?_ ?_|refine fun (nb:Bool) (hnb:nb=true→_)=>?_|exact we|refine fun (hc:_=(_:Bool))=>?_|clear hK K))
    all_goals first|omega|skip
    exact ⟨⟨(i+1,l++ [S.1]),by omega,by simp [hll],hf2⟩,by simp only [List.map_append];simp only [AS.le,leT,leH,zc,AsgK,AV.le,AV.leL,AObj.le,inH,idsT,idsH,AV.ids,AV.idsL,AV.idsR,AObj.ids,lk,hget,go_sem,aeq,aeq.aeqF,simprocAttr,hwi]<;>and_intros<;>rfl,by simp;omega⟩
   |false=>
    rw [ho,if_neg (by decide)] at hf
    rw [hf] at h0
    cases h0
  ·rw [if_pos he] at hf
   rw [hf] at h0
   exact absurd h0 he
 ·have hcmp:decide ((i:Int)<8)=false:=decide_eq_false (by omega)
  have him:i=8:=by omega
  subst him
  have hf3:snaps d p=(l,0):=hf
  (have tk:=za zaY <| za zaL <| zb Tryz.prog;have fx:=hcmp;repeat' (first|(refine hK _ ?_;clear hK K)|refine wa fun K hK=>?_|refine wb ?_|refine wc ?_ ?_|refine fun (nb:Bool) (hnb:nb=true→_)=>?_|exact we|refine fun (hc:_=(_:Bool))=>?_|clear hK K))
  ·rw [hf3]
  ·rw [hf3];exact hll
theorem zq9 (d:Disk) (p:Plan) (h:DP d p) (h0:(snaps d p).2=0):ACall Tryz.prog 125 0 [diskA d,planA p] [] (fun r h'=>r= .tup [.osl 12 3 8 0 8,.d (.int .i64 0)]∧h'= [(12,.arr 3 ((snaps d p).1.map snpD))]∧(snaps d p).1.length=8):=by
 refine zR (fun i=>decide (i=12)) ?_
 refine bod Tryz.func125 Tryz.ntmps125 (fun base=>?_)
 (repeat' (first|(refine hK _ ?_;clear hK K)|refine wa fun K hK=>?_|refine wb ?_|refine wc ?_ ?_|refine fun (nb:Bool) (hnb:nb=true→_)=>?_|exact we|clear hK K))
 refine (ACall.own (fl':=0) (zmB d p h h0) rfl rfl (by omega) (by rintro r h' ⟨rfl,rfl,_⟩;rfl)).mono ?_
 rintro r h' ⟨h1',⟨rfl,rfl,hl⟩,rfl⟩
 simp only [go_sem,aeq,aeq.aeqF,simprocAttr,List.singleton_append]
 (repeat' (first|(refine hK _ ?_;clear hK K)|refine wa fun K hK=>?_|refine wb ?_|refine wc ?_ ?_|refine fun (nb:Bool) (hnb:nb=true→_)=>?_|exact we|clear hK K))
theorem zsN (x:Img) (h:ImgF x) (h0:(sbeg x.disk).2.2=0):(sbeg x.disk).2.1.length=8∧ACall Tryz.prog 68 20 [imgA x,.d (.bool false)] [] (fun r h'=>r= .vp 21 0∧h'= [(64,.arr 3 ((sbeg x.disk).2.1.map snpD)),(21,.var (wkV ⟨x,(sbeg x.disk).1,(sbeg x.disk).2.1,p0,0⟩ (.osl 64 3 8 0 8)))]):=by
 have hdp:DP x.disk p0:=⟨h.disk,zdc⟩
 have hR0:(zA x.disk p0).2=0:=by
  rw [sbeg] at h0
  by_cases he:(zA x.disk p0).2=0
  ·exact he
  ·simp only [ne_eq,he,not_false_eq_true,if_true] at h0
 have hsb:sbeg x.disk=((zA x.disk p0).1,(snaps x.disk p0).1,(snaps x.disk p0).2):=by
  rw [sbeg,if_neg (by simpa using hR0)]
 rw [hsb] at h0 ⊢
 simp only at h0 ⊢
 have hsn:=zq9 x.disk p0 hdp h0
 have hl8:(snaps x.disk p0).1.length=8:=znz 8 0 [] h0
 have hsn2:ACall Tryz.prog 125 0 [diskA x.disk,planA p0] [] (fun r h'=>r= .tup [.osl 12 3 ((snaps x.disk p0).1.map snpD).length 0 ((snaps x.disk p0).1.map snpD).length,.d (.int .i64 0)]∧h'= [(12,.arr 3 ((snaps x.disk p0).1.map snpD))]):=by
  rw [List.length_map,hl8]
  exact hsn.mono (fun r h' hr=>⟨hr.1,hr.2.1⟩)
 refine ⟨hl8,?_⟩
 refine zR (fun i=>decide (i=21)||decide (i=64)) ?_
 refine bod Tryz.func68 Tryz.ntmps68 (fun base=>?_)
 obtain ⟨B,hB⟩:∃B:Ws→AHeap,B=fun a=> [(22,.var [.vp 21 0]),(21,.var (wkS a)),(20,.var (imgV x))]:=⟨_,rfl⟩
 obtain ⟨l,hl⟩:∃l:List Stp,l= [⟨144,[],[.vp 20 0,.vp 22 0]⟩,⟨145,[],[.vp 20 0,.vp 22 0]⟩]:=⟨_,rfl⟩
 have hok:∀a,SOk 40 l (B a):=by intro a;rw [hB,hl];exact {}
 have hse:∀a e,hset (B a) 21 (.var (wkS { a with e:=e }))=B { a with e:=e } :=by intro a e;rw [hB];rfl
 have hge:∀a,hget (B a) 21=some (.var (wkS a)):=by intro a;rw [hB];rfl
 have fin:Runs 40 l (fun h'=>h'= [(64,.arr 3 ((snaps x.disk p0).1.map snpD)),(22,.var [.vp 21 0]),(21,.var (wkV ⟨x,(zA x.disk p0).1,(snaps x.disk p0).1,p0,0⟩ (.osl 64 3 8 0 8))),(20,.var (imgV x))]) l (B ⟨x,⟨0,0⟩,[],p0,0⟩):=by
  conv=>arg 4;rw [hl]
  refine ⟨hok _,_,_,hge _,fun h=>absurd rfl h,fun _=>(zdY (v:= .d (.int .i64 (zA x.disk p0).2)) (H':=B ⟨x,(zA x.disk p0).1,[],p0,0⟩) ?_ (by rw [hB];rfl) (by rw [hB];exact zap rfl)).mono ?_⟩
  ·rw [hB]
   refine bod Tryz.func144 Tryz.ntmps144 (fun base=>?_)
   (have tk:=za zcj <| za zf8 <| zb Tryz.prog;repeat' (first|(refine hK _ ?_;clear hK K)|refine va fun K hK=>?_|refine vb ?_|refine wc ?_ ?_|refine fun (nb:Bool) (hnb:nb=true→_)=>?_|exact we|clear hK K))
  rintro v h' ⟨rfl,rfl⟩
  refine ⟨_,_,_,rfl,hge _,?_⟩
  rw [hse]
  refine ⟨hok _,_,_,hge _,fun h=>absurd hR0 h,fun _=>(ACall.whole (fl:=60) (K:=fun v h'=>v= .d (.int .i64 0)∧h'= [(64,.arr 3 ((snaps x.disk p0).1.map snpD)),(22,.var [.vp 21 0]),(21,.var (wkV ⟨x,(zA x.disk p0).1,(snaps x.disk p0).1,p0,0⟩ (.osl 64 3 8 0 8))),(20,.var (imgV x))]) ?_ (by rw [hB];exact zap rfl) (by omega) (by
   rintro r h' ⟨_,rfl⟩ i hi
   rw [hB] at hi
   rw [hget]
   split
   ·rfl
   ·exact zcu (by rfl) i hi)).mono ?_⟩
  ·rw [hB,hR0]
   refine zR (fun i=>decide (i<60)||decide (i=64)) ?_
   refine bod Tryz.func145 Tryz.ntmps145 (fun base=>?_)
   (have tk:=zb Tryz.prog);repeat' (first|((first|refine zv noTab [3000125] (zb _) mx (fun K hK=>?_)|(refine ga ?_;intro K hK)|refine zJ noTab [3000125] (zb _) mx ?_|refine gb ?_);simp only [go_sem,aeq,aeq.aeqF,simprocAttr,Tryz.results145])|refine zj (fun K hK=>?_)|(refine hK _ ?_;clear hK K)|refine fun (nb:Bool) (hnb:nb=true→_)=>?_|with_reducible refine And.intro ?_ ?_|(refine (show zaq _ _=true from ?_);kernel_rfl)|omega|assumption|clear hK K)
   refine ⟨12,3,(snaps x.disk p0).1.map snpD,.int .i64 0,ACall.args_le (by simp [AV.leL,AV.le,diskA,planA,p0]) hsn2,?_⟩
   rw [List.length_map,hl8]
   (have tk:=zb Tryz.prog);repeat' (first|((first|refine zv noTab [3000125] (zb _) mx (fun K hK=>?_)|(refine ga ?_;intro K hK)|refine zJ noTab [3000125] (zb _) mx ?_|refine gb ?_);simp only [go_sem,aeq,aeq.aeqF,simprocAttr,Tryz.results145])|refine zj (fun K hK=>?_)|(refine hK _ ?_;clear hK K)|refine fun (nb:Bool) (hnb:nb=true→_)=>?_|with_reducible refine And.intro ?_ ?_|(refine (show zaq _ _=true from ?_);kernel_rfl)|omega|assumption|clear hK K)
  rintro v h' ⟨rfl,rfl⟩
  exact ⟨⟨x,(zA x.disk p0).1,(snaps x.disk p0).1,p0,0⟩,.osl 64 3 8 0 8,0,rfl,rfl,by rw [hl];exact {},rfl⟩
 rw [hl,hB] at fin
 (have tk:=zb Tryz.prog);repeat' ((fail_if_success refine hds 4 (by rfl) ?_);first|((first|(refine sa ?_;intro K hK)|refine sb ?_);simp only [go_sem,aeq,aeq.aeqF,simprocAttr,Bool.false_and,Tryz.results68])|refine zj (fun K hK=>?_)|refine sc ?_|refine zi rfl (fun hc=>?_) (fun hc=>?_)|(refine hK _ ?_;clear hK K)|refine fun (nb:Bool) (hnb:nb=true→_)=>?_|with_reducible refine And.intro ?_ ?_|omega|assumption|refine fun (hg:(_:Bool)=(_:Bool))=>?_|clear hK K)
 refine aw_le ⟨[(2,true,.vp 20 0),(5,true,.vp 22 0)],[(22,.var [.vp 21 0]),(21,.var (wkS ⟨x,⟨0,0⟩,[],p0,0⟩)),(20,.var (imgV x))],some []⟩ le1 ?_
 (have tk:=zb Tryz.prog;repeat' (first|(refine hK _ ?_;clear hK K)|refine wa fun K hK=>?_|refine wb ?_|refine wc ?_ ?_|refine fun (nb:Bool) (hnb:nb=true→_)=>?_|exact we|refine fun (hc:_=(_:Bool))=>?_|clear hK K))
 refine (zfA (fl:=40) _ (by decide) (by omega) fin (by
  rintro h' rfl i hi
  rw [hget]
  split
  ·rfl
  ·exact zcu (by rfl) i hi)).mono ?_
 rintro r h' ⟨rfl,rfl⟩
 (have tk:=zb Tryz.prog;repeat' (first|(refine hK _ ?_;clear hK K)|refine wa fun K hK=>?_|refine wb ?_|refine wc ?_ ?_|refine fun (nb:Bool) (hnb:nb=true→_)=>?_|exact we|refine fun (hc:_=(_:Bool))=>?_|clear hK K))
theorem zu6 (s:Snp) (_:True):AC 70 [snpA s] (.d (.bool (s.id==0))):=by
 refine fbod Tryz.func70 Tryz.ntmps70 (fun base=>?_)
 (repeat' (first|(refine hK _ ?_;clear hK K)|refine wa fun K hK=>?_|refine wb ?_|refine wc ?_ ?_|exact we|clear hK K))
@[go_sem] noncomputable def zdZ:Ent Tryz.prog 70:= .m1 zfo zu6
theorem zra (l:List Snp) (hl:l.length≤9223372036854775807):ACall Tryz.prog 146 0 [.d (.sl 3 (l.map snpD)),.fn (.func 70) [] []] [] (fun r _=>r= .d (.int .i64 (idxP (fun s=>s.id==0) l 0))):=by
 refine bod Tryz.func146 Tryz.ntmps146 (fun base=>?_)
 (repeat' (first|(refine hK _ ?_;clear hK K)|refine wa fun K hK=>?_|refine wb ?_|refine wc ?_ ?_|exact we|refine fun (hc:_=(_:Bool))=>?_|clear hK K))
 refine zo (fun q:Idst (fun s=>s.id==0) l=>⟨[(0,true,.d (.sl 3 (l.map snpD))),(1,true,.fn (.func 70) [] []),(7,true,.d (.int .i64 l.length)),(8,true,.d (.int .i64 q.1))],[],some []⟩) (fun q=>l.length - q.1) ⟨0,Nat.zero_le _,rfl⟩ le1 (fun q=>?_)
 obtain ⟨i,hi,hf⟩:=q
 simp only at hi hf ⊢
 rcases zT snpD l i hi with ⟨⟨m,s,u⟩,hq,hlt,hcmp,hrow,hdr,htk⟩|⟨hend,hcmp⟩
 ·simp only [snpD] at hrow
  have hwi:=zp (i:=i) (by omega)
  (have tk:=za zdZ <| zb Tryz.prog;have fx:=(⟨hcmp,hrow⟩:_∧_);repeat' (first|(refine hK _ ?_;clear hK K)|refine wa fun K hK=>?_|refine wb ?_|refine wc ?_ ?_|exact we|refine fun (hc:_=(_:Bool))=>?_|clear hK K))
  ·rw [hf,hdr,idxP,if_pos (by simpa using hc)]
  ·exact ⟨⟨i+1,by omega,by rw [hf,hdr,idxP,if_neg (by simpa using hc)]⟩,lew,by simp;omega⟩
 ·(have tk:=zb Tryz.prog;have fx:=hcmp;repeat' (first|(refine hK _ ?_;clear hK K)|refine wa fun K hK=>?_|refine wb ?_|refine wc ?_ ?_|exact we|refine fun (hc:_=(_:Bool))=>?_|clear hK K))
  rw [hf,hend,List.drop_length]
  rfl
@[go_sem] noncomputable def zcb:Ent Tryz.prog 146:= .ofL (consL (slT 3 snpD zdf) (consL (fnT 70 nilL) nilL)) (fun (l,_,_)=>l.length≤9223372036854775807) (fun (l,_,_)=> .d (.int .i64 (idxP (fun s=>s.id==0) l 0))) (fun (l,_,_) hp=>⟨rfl,zra l hp⟩)
def snz:List D:= [.int .u32 0,.int .i64 0,.str []]
theorem znA {P:Snp→Bool} :∀ (l:List Snp) (n:Nat),idxP P l n= -1→l.filter (fun s=> !P s)=l
 | [],n,_=>rfl
 | x::l,n,h=>by
  rw [idxP] at h
  cases hx:P x with
  |true=>rw [hx,if_pos rfl] at h;omega
  |false=>
   rw [hx,if_neg (by decide)] at h
   rw [List.filter_cons,hx,Bool.not_false,if_pos rfl,znA l _ h]
theorem zrb {P:Snp→Bool} :∀ (l:List Snp) (n i:Nat),idxP P l n=((n+i:Nat):Int)→(l.take (i+1)).filter (fun s=> !P s)=l.take i
 | [],n,i,h=>by rw [idxP] at h;omega
 | x::l,n,i,h=>by
  rw [idxP] at h
  cases hx:P x with
  |true=>
   rw [hx,if_pos rfl] at h
   obtain rfl:i=0:=by omega
   simp [List.filter_cons,hx]
  | false=>
   rw [hx,if_neg (by decide)] at h
   cases i with
   |zero=>rcases zdw P l (n+1) with hh|hh<;>omega
   |succ i=>
    rw [List.take_succ_cons,List.take_succ_cons,List.filter_cons,hx,Bool.not_false,if_pos rfl,zrb l (n+1) i (by rw [h];congr 1;omega)]
theorem zue {A:List Snp} {i:Nat} {u:Snp} (hi:i<A.length):(A.map snpD).set i (((((A.map snpD).getD i []).set 0 (D.int .u32 u.id)).set 1 (D.int .i64 u.l1)).set 2 (D.str u.name))=(A.set i u).map snpD:=by
 obtain ⟨w,hw⟩:=zaj hi
 rw [za8 (g:=snpD) hw,List.map_set]
 rfl
theorem zuf (L:List Snp) (hl:L.length≤8):ACall Tryz.prog 69 70 [.osl 64 3 L.length 0 L.length,.fn (.func 70) [] []] [(64,.arr 3 (L.map snpD))] (fun r h'=>r= .osl 64 3 L.length 0 (L.filter (fun s=>s.id !=0)).length∧h'= [(64,.arr 3 ((L.filter (fun s=>s.id !=0)).map snpD++List.replicate (L.length - (L.filter (fun s=>s.id !=0)).length) snz))]):=by
 refine zR (fun i=>decide (i=64)) ?_
 have hlm:(L.map snpD).length=L.length:=List.length_map _
 have htk:List.take L.length (L.map snpD)=L.map snpD:=List.take_of_length_le (by simp)
 obtain ⟨I,hI⟩:∃I,I=idxP (fun s:Snp=>s.id==0) L 0:=⟨_,rfl⟩
 have hF:L.filter (fun s=>s.id !=0)=L.filter (fun s=> !(s.id==0)):=rfl
 have hI2:I= -1→L=L.filter (fun s=> !(s.id==0)):=fun h=>(znA L 0 (by rw [← hI];exact h)).symm
 refine bod Tryz.func69 Tryz.ntmps69 (fun base=>?_)
 rcases zdw (fun s:Snp=>s.id==0) L 0 with hb|hb
 ·rw [← hI] at hb
  have hc:(I== -1)=true:=by rw [hb];rfl
  (have tk:=za zcb <| za zdZ <| zb Tryz.prog;have fx:=(⟨hlm,htk,hI.symm,hc⟩:_∧_∧_∧_);repeat' (first|(refine hK _ ?_;clear hK K)|refine wa fun K hK=>?_|refine wb ?_|refine wc ?_ ?_|refine fun (nb:Bool) (hnb:nb=true→_)=>?_|exact we|refine fun (hc:_=(_:Bool))=>?_|clear hK K))
  all_goals rw [hF,← hI2 hb]
  rw [Nat.sub_self]
  simp
 ·rw [← hI] at hb
  have hc:(I== -1)=false:=by rw [beq_eq_false_iff_ne];omega
  have hwi:IntKind.i64.wrap (I+1)=I+1:=zg (by omega) (by omega)
  (have tk:=za zcb <| za zdZ <| zb Tryz.prog;have fx:=(⟨hlm,htk,hI.symm,hc,hwi⟩:_∧_∧_∧_∧_);repeat' (first|(refine hK _ ?_;clear hK K)|refine wa fun K hK=>?_|refine wb ?_|refine wc ?_ ?_|refine fun (nb:Bool) (hnb:nb=true→_)=>?_|exact we|refine fun (hc:_=(_:Bool))=>?_|clear hK K))
  obtain ⟨k,hk⟩:∃k:Nat,I=k:=⟨I.toNat,by omega⟩
  subst hk
  have hfi:=zrb L 0 k (by rw [← hI];simp)
  refine zo (fun q: { q:Nat×Nat×List Snp // q.1≤q.2.1∧q.2.1≤L.length∧q.2.2.length=L.length∧q.2.2.take q.1=(L.take q.2.1).filter (fun s=> !(s.id==0))∧q.2.2.drop q.2.1=L.drop q.2.1 } =>⟨[(0,true,.osl 64 3 L.length 0 L.length),(1,true,.fn (.func 70) [] []),(5,true,.d (.int .i64 q.1.1)),(6,true,.d (.int .i64 q.1.2.1))],[(64,.arr 3 (q.1.2.2.map snpD))],some []⟩) (fun q=>L.length - q.1.2.1) ⟨(k,k+1,L),by show k≤k+1;omega,by show k+1≤L.length;omega,rfl,hfi.symm,rfl⟩ le1 (fun q=>?_)
  obtain ⟨⟨i,j,A⟩,hij,hj,hA,hA1,hA2⟩:=q
  simp only at hij hj hA hA1 hA2 ⊢
  have hAm:(A.map snpD).length=L.length:=by rw [List.length_map,hA]
  rcases Nat.lt_or_ge j L.length with hlt|hge
  ·obtain ⟨u,hu⟩:=zaj hlt
   have huA:A[j]?=some u:=by
    have:(A.drop j)[0]?=(L.drop j)[0]?:=by rw [hA2]
    simpa using this.trans (by simpa using hu)
   have hrow:=za8 (g:=snpD) huA
   simp only [snpD] at hrow
   have hcmp:decide ((j:Int)<(L.length:Int))=true:=decide_eq_true (by omega)
   have hwj:=zp (i:=j) (by omega)
   have hwi2:=zp (i:=i) (by omega)
   have hA3:A.drop (j+1)=L.drop (j+1):=by
    have:=congrArg (List.drop 1) hA2
    simpa [List.drop_drop] using this
   cases hz:(u.id==0) with
   |true=>
    (have tk:=za zcb <| za zdZ <| zb Tryz.prog;have fx:=(⟨hcmp,hAm,hrow,hz,@Int.toNat_natCast⟩:_∧_∧_∧_∧_);repeat' (first|(refine hK _ ?_;clear hK K)|refine wa fun K hK=>?_|refine wb ?_|refine wc ?_ ?_|refine fun (nb:Bool) (hnb:nb=true→_)=>?_|exact we|refine fun (hc:_=(_:Bool))=>?_|clear hK K))
    exact ⟨⟨(i,j+1,A),by show i≤j+1;omega,by show j+1≤L.length;omega,hA,by show A.take i=(L.take (j+1)).filter _;rw [zaZ hu,List.filter_append,← hA1];simp [List.filter,hz],hA3⟩,by simp only [AS.le,leT,leH,zc,AsgK,AV.le,AV.leL,AObj.le,inH,idsT,idsH,AV.ids,AV.idsL,AV.idsR,AObj.ids,lk,hget,go_sem,aeq,aeq.aeqF,simprocAttr,hwj]<;>and_intros<;>rfl,by show L.length - (j+1)<L.length - j;omega⟩
   | false=>
    (have tk:=za zcb <| za zdZ <| zb Tryz.prog;have fx:=(⟨hcmp,hAm,hrow,hz,@Int.toNat_natCast⟩:_∧_∧_∧_∧_);repeat' (first|(refine hK _ ?_;clear hK K)|refine wa fun K hK=>?_|refine wb ?_|refine wc ?_ ?_|refine fun (nb:Bool) (hnb:nb=true→_)=>?_|exact we|refine fun (hc:_=(_:Bool))=>?_|clear hK K))
    rw [zue (by omega)]
    exact ⟨⟨(i+1,j+1,A.set i u),by show i+1≤j+1;omega,by show j+1≤L.length;omega,by show (A.set i u).length=_;rw [List.length_set];exact hA,by
     show (A.set i u).take (i+1)=(L.take (j+1)).filter _
     rw [zaZ hu,List.filter_append,← hA1,zaZ (l:=A.set i u) (q:=u) (by rw [List.getElem?_set_self (by omega)]),List.take_set_of_le (Nat.le_refl _)]
     simp [List.filter,hz],by show (A.set i u).drop (j+1)=_;rw [List.drop_set_of_lt (by omega)];exact hA3⟩,by simp only [AS.le,leT,leH,zc,AsgK,AV.le,AV.leL,AObj.le,inH,idsT,idsH,AV.ids,AV.idsL,AV.idsR,AObj.ids,lk,hget,go_sem,aeq,aeq.aeqF,simprocAttr,hwj,hwi2]<;>and_intros<;>rfl,by show L.length - (j+1)<L.length - j;omega⟩
  ·obtain rfl:j=L.length:=by omega
   have hcmp:decide ((L.length:Int)<(L.length:Int))=false:=decide_eq_false (by omega)
   rw [List.take_length] at hA1
   have hFl:(L.filter (fun s=> !(s.id==0))).length=i:=by rw [← hA1,List.length_take];omega
   have hrp:rput (A.map snpD) i (List.replicate (L.length - i) snz)=(L.filter (fun s=> !(s.id==0))).map snpD++List.replicate (L.length - i) snz:=by
    rw [← hA1,List.map_take,rput,List.length_replicate,List.drop_of_length_le (by rw [hAm];omega),List.append_nil]
   (have tk:=za zcb <| za zdZ <| zb Tryz.prog;have fx:=(⟨hcmp,hAm,@Int.toNat_natCast⟩:_∧_∧_);repeat' (first|(refine hK _ ?_;clear hK K)|refine wa fun K hK=>?_|refine wb ?_|refine wc ?_ ?_|refine fun (nb:Bool) (hnb:nb=true→_)=>?_|exact we|refine fun (hc:_=(_:Bool))=>?_|clear hK K))
   ·exact (congrArg List.length hrp).trans (by rw [List.length_append,List.length_map,hFl,List.length_replicate];omega)
   ·rw [hF,hFl,Nat.sub_zero]
   ·rw [hF,hFl]
    exact congrArg (fun z=> [(64,AObj.arr 3 z)]) hrp
theorem zug:ACall Tryz.prog 69 0 [.d (.sl 3 []),.fn (.func 70) [] []] [] (fun r _=>r= .d (.sl 3 [])):=by
 have hc:(idxP (fun s:Snp=>s.id==0) [] 0== -1)=true:=rfl
 refine fbod Tryz.func69 Tryz.ntmps69 (fun base=>?_)
 (have tk:=za zcb <| za zdZ <| zb Tryz.prog;have fx:=hc;repeat' (first|(refine hK _ ?_;clear hK K)|refine wa fun K hK=>?_|refine wb ?_|refine wc ?_ ?_|refine fun (nb:Bool) (hnb:nb=true→_)=>?_|exact we|refine fun (hc:_=(_:Bool))=>?_|clear hK K))
@[go_sem] noncomputable def zrc:Ent Tryz.prog 69:= .ofL (consL (zc6 (.d (.sl 3 []))) (consL (fnT 70 nilL) nilL)) (fun (_,_,_)=>True) (fun (_,_,_)=> .d (.sl 3 [])) (fun (_,_,_) hp=>⟨rfl,zug⟩)
theorem zsO {d:Disk} (h:(sbeg d).2.2≠0):(sbeg d).2.1= []:=by
 have hk:∀ (m i:Nat) (l:List Snp),(zbM d p0 m i l).2≠0→(zbM d p0 m i l).1= []:=by
  intro m
  induction m with
  |zero=>intro i l h;exact absurd rfl h
  | succ m ih=>
   intro i l h
   rw [zbM] at h ⊢
   split at h
   ·rename_i he;rw [if_pos he]
   ·rename_i he
    rw [if_neg he]
    split at h
    ·rename_i ho;rw [if_pos ho];exact ih _ _ h
    ·rename_i ho;rw [if_neg ho]
 unfold sbeg at h ⊢
 simp only at h ⊢
 split
 ·rfl
 ·rename_i he
  rw [if_neg he] at h
  exact hk _ _ _ h
theorem zrd (x:Img) (h:ImgF x):AC 26 [imgA x] (.tup [.d (.sl 3 ((slist x.disk).1.map snpD)),.d (.int .i64 (slist x.disk).2)]):=by
 refine fbod Tryz.func26 Tryz.ntmps26 (fun base=>?_)
 obtain ⟨Z,hZ⟩:∃Z,Z=slist x.disk:=⟨_,rfl⟩
 rw [← hZ]
 rw [zhL] at hZ
 by_cases he:(sbeg x.disk).2.2=0
 ·obtain ⟨h8,hb⟩:=zsN x h he
  (repeat' (first|(refine hK _ ?_;clear hK K)|refine wa fun K hK=>?_|refine wb ?_|refine wc ?_ ?_|refine fun (nb:Bool) (hnb:nb=true→_)=>?_|exact we|clear hK K))
  refine (ACall.own (fl':=0) hb rfl rfl (by omega) (by rintro r h' ⟨rfl,rfl⟩;rfl)).mono ?_
  rintro r h' ⟨h1',⟨rfl,rfl⟩,rfl⟩
  rw [if_neg (by simpa using he)] at hZ
  obtain ⟨L,hL⟩:∃L,L=(sbeg x.disk).2.1:=⟨_,rfl⟩
  rw [← hL] at h8 hZ ⊢
  have hdel:=zuf L (by omega)
  rw [h8] at hdel
  simp only [go_sem,aeq,aeq.aeqF,simprocAttr,List.cons_append,List.nil_append]
  (have tk:=zb Tryz.prog);repeat' (first|((first|refine zv noTab [1000069] (zb _) mx (fun K hK=>?_)|(refine ga ?_;intro K hK)|refine zJ noTab [1000069] (zb _) mx ?_|refine gb ?_);simp only [go_sem,aeq,aeq.aeqF,simprocAttr,Tryz.results26])|refine zj (fun K hK=>?_)|(refine hK _ ?_;clear hK K)|refine fun (nb:Bool) (hnb:nb=true→_)=>?_|with_reducible refine And.intro ?_ ?_|(refine (show zaq _ _=true from ?_);kernel_rfl)|omega|assumption|clear hK K)
  refine ⟨64,70,.arr 3 (L.map snpD),_,_,rfl,by decide,by simp [AObj.ids],by simp [AV.idsL,AV.ids],hdel,?_⟩
  simp only [go_sem,aeq,aeq.aeqF,simprocAttr]
  (have tk:=zb Tryz.prog);repeat' (first|((first|refine zv noTab [1000069] (zb _) mx (fun K hK=>?_)|(refine ga ?_;intro K hK)|refine zJ noTab [1000069] (zb _) mx ?_|refine gb ?_);simp only [go_sem,aeq,aeq.aeqF,simprocAttr,Tryz.results26])|refine zj (fun K hK=>?_)|(refine hK _ ?_;clear hK K)|refine fun (nb:Bool) (hnb:nb=true→_)=>?_|with_reducible refine And.intro ?_ ?_|(refine (show zaq _ _=true from ?_);kernel_rfl)|omega|assumption|clear hK K)
  have hle:(L.filter (fun s=>s.id !=0)).length≤8:=by rw [← h8];exact List.length_filter_le ..
  rw [if_pos ⟨by rw [List.length_append,List.length_map,List.length_replicate];omega,hle⟩,List.take_append_of_le_length (by rw [List.length_map];exact Nat.le_refl _),List.take_of_length_le (by rw [List.length_map];exact Nat.le_refl _),hZ]
 ·(repeat' (first|(refine hK _ ?_;clear hK K)|refine wa fun K hK=>?_|refine wb ?_|refine wc ?_ ?_|refine fun (nb:Bool) (hnb:nb=true→_)=>?_|exact we|clear hK K))
  refine (ACall.own (fl':=0) (zeq x false h) rfl rfl (by omega) (by rintro r h' ⟨rfl,rfl⟩;rfl)).mono ?_
  rintro r h' ⟨h1',⟨rfl,rfl⟩,rfl⟩
  have h1:sbw x false=⟨x,(sbeg x.disk).1,[],p0,(sbeg x.disk).2.2⟩:=by rw [sbw,zsO he];rfl
  rw [if_pos he] at hZ
  rw [h1]
  simp only [go_sem,aeq,aeq.aeqF,simprocAttr,List.singleton_append]
  (have tk:=za zrc <| zb Tryz.prog;repeat' (first|(refine hK _ ?_;clear hK K)|refine va fun K hK=>?_|refine vb ?_|refine wc ?_ ?_|refine fun (nb:Bool) (hnb:nb=true→_)=>?_|exact we|clear hK K))
  rw [hZ]
  rfl
@[go_sem] noncomputable def zhO:Ent Tryz.prog 26:= .m1 zbp zrd
open Go Go.Proofs
open Go Go.Proofs
def zcZ (g m:Int):Txt:= [67,79,70,49]++putN g.toNat 2++putN m.toNat 2
def zfC (g m:Int):Txt:=padR (zcZ g m++zeP (sumOf 0 (zcZ g m)))
theorem zjB (g m:Int):(zcZ g m).length=8:=by
 rw [zcZ,List.length_append,List.length_append,zP,zP];rfl
theorem zoT (g:Int) (m:Int) (h:zdu g m=true):ACall Tryz.prog 112 0 [.agg [.d (.int .i64 g),.d (.int .i64 m)]] [] (fun r _=>r= .tup [.d (.str (zfC g m)),.d (.int .i64 0)]):=by
 refine fbod Tryz.func112 Tryz.ntmps112 (fun base=>?_)
 have hg:=geo_iff.1 h
 have hw1:IntKind.u64.wrap g=g:=zad (by omega) (by omega)
 have hw2:IntKind.u64.wrap m=m:=zad (by omega) (by omega)
 have hl1:=zP g.toNat 2
 have hl2:=zP m.toNat 2
 have hhd:(67:UInt8)::79::70::49::putN g.toNat 2++putN m.toNat 2=zcZ g m:=rfl
 have hhl:=zjB g m
 have hs:=ze1 0 (zcZ g m) (by omega) (by omega)
 have hbl:=zcI (sumOf 0 (zcZ g m))
 (have tk:=za zcE <| za zar <| za za6 <| za zav <| za zdt <| zb Tryz.prog);repeat' (first|((first|(refine ga ?_;intro K hK)|refine gb ?_);simp only [go_sem,aeq,aeq.aeqF,simprocAttr,h,hw1,hw2,zhv,ziA,List.length_cons,List.length_nil,hl1,hl2,hhd,hhl,hbl,List.length_append,Tryz.results112])|refine zj (fun K hK=>?_)|refine sc ?_|refine zi rfl (fun hc=>?_) (fun hc=>?_)|(refine hK _ ?_;clear hK K)|with_reducible refine And.intro ?_ ?_|(refine (show zaq _ _=true from ?_);kernel_rfl)|omega|assumption|clear hK K)
 rfl
@[go_sem] noncomputable def zk6:Ent Tryz.prog 112:= .ofL (consL (aggT (consL (intT .i64) (consL (intT .i64) nilL)) (fun p=>p) (fun p=>p) (fun _=>rfl)) nilL) (fun ((g,m,_),_)=>zdu g m=true) (fun ((g,m,_),_)=> .tup [.d (.str (zfC g m)),.d (.int .i64 0)]) (fun ((g,m,_),_) hp=>⟨rfl,zoT g m hp⟩)
def zhP:Img:=⟨(dflush (play (dnew 112).1 (radd (dnew 112).1 (za7 (pset p0 0 (zfC 20 8)).1 ⟨0,1⟩).1 0 1).1).1).1,⟨20,8⟩,⟨1,0⟩,[],false⟩
theorem zre:ImgF zhP:=by
 have h:DiskF (dnew 112).1:=⟨by constructor<;>simp [dnew],rfl⟩
 have hp:=(h.play (radd (dnew 112).1 (za7 (pset p0 0 (zfC 20 8)).1 ⟨0,1⟩).1 0 1).1).flush
 exact ⟨⟨hp.ok,by decide,(fun m hm=>by cases hm),(fun m hm=>by cases hm)⟩,hp,by decide,by decide,by decide,by decide,by decide⟩
theorem zmC:ACall Tryz.prog 41 0 [] [] (fun r _=>r=imgA zhP):=by
 have hd:DiskF (dnew 112).1:=⟨by constructor<;>simp [dnew],rfl⟩
 obtain ⟨c,hc⟩:∃c,c=zhP:=⟨_,rfl⟩
 rw [← hc]
 unfold zhP at hc
 obtain ⟨N,hN⟩:∃N,N=dnew 112:=⟨_,rfl⟩
 obtain ⟨S,hS⟩:∃S,S=pset p0 0 (zfC 20 8):=⟨_,rfl⟩
 have hp0:pfit S.1=true:=by rw [hS];exact zda zdc
 obtain ⟨Q,hQ⟩:∃Q,Q=za7 S.1 ⟨0,1⟩:=⟨_,rfl⟩
 have hp1:pfit Q.1=true:=by rw [hQ];exact ze6 hp0
 rw [← hN] at hd
 rw [← hN,← hS,← hQ] at hc
 have hdp:DP N.1 Q.1:=⟨hd,hp1⟩
 obtain ⟨A,hA⟩:∃A,A=radd N.1 Q.1 0 1:=⟨_,rfl⟩
 have hp2:pfit A.1=true:=by rw [hA];exact znm hp1
 have hpo:=PlanOk.of hp2
 have hpl:=(zaz hp2).1
 have hdo:=hd.ok
 obtain ⟨L,hL⟩:∃L,L=play N.1 A.1:=⟨_,rfl⟩
 have hLf:DiskF L.1:=by rw [hL];exact hd.play A.1
 have hLo:=hLf.ok
 have hLp:=hLf.puts
 obtain ⟨F,hF⟩:∃F,F=dflush L.1:=⟨_,rfl⟩
 rw [← hA,← hL,← hF] at hc
 have hgeo:zdu 20 8=true:=by decide
 have hpo0:=PlanOk.of zdc
 refine fbod Tryz.func41 Tryz.ntmps41 (fun base=>?_)
 (have tk:=za znQ <| za zk6 <| za zaN <| za zbD <| za zK <| za zb4 <| za zbd <| zb Tryz.prog;have fx:=(⟨hN.symm,hS.symm,hQ.symm,hA.symm,hL.symm,hF.symm,hc.symm⟩:_∧_∧_∧_∧_∧_∧_);repeat' (first|(refine hK _ ?_;clear hK K)|refine wa fun K hK=>?_|refine wb ?_|refine wc ?_ ?_|exact we|clear hK K))
 ·rfl
 ·decide
 ·rw [hc]
  rfl
@[go_sem] noncomputable def zjC:Ent Tryz.prog 41:= .ofL nilL (fun _=>True) (fun _=>imgA zhP) (fun _ hp=>⟨rfl,zmC⟩)
open Go Go.Proofs
open Go Go.Proofs
open Go Go.Proofs
open Go Go.Proofs
attribute [local simp, local go_sem] AV.leL_refl
open Go Go.Proofs
open Go Go.Proofs
def agood (x:Img):Bool:=decide ((x.disk.cache.length:Int)≤300)&&decide ((x.maps.length:Int)≤2)&&ifit x
theorem zum {x:Img} (h:ImgOk x) (hg:agood x=true):ImgF x∧8≤x.geom.host:=by
 unfold agood ifit at hg
 simp only [Bool.and_eq_true,decide_eq_true_eq] at hg
 obtain ⟨⟨g1,g2⟩,⟨⟨⟨⟨g3,g4⟩,g5⟩,g6⟩,g7⟩,g8⟩:=hg
 rw [geo_iff] at g3
 unfold dfit at g4
 simp only [Bool.and_eq_true] at g4
 unfold jfit at g6
 simp only [Bool.and_eq_true,decide_eq_true_eq] at g6
 exact ⟨⟨h,⟨h.disk,g4.1.2⟩,by omega,by omega,by omega,by omega,by omega⟩,by omega⟩
open Go Go.Proofs
theorem zoU (a b:List Snp) (ha:a.length≤9223372036854775807):AC 36 [.d (.sl 3 (a.map snpD)),.d (.sl 3 (b.map snpD))] (.d (.bool (decide (a=b)))):=by
 refine fbod Tryz.func36 Tryz.ntmps36 (fun base=>?_)
 by_cases hl:a.length=b.length
 ·have hb:((a.length:Int) !=(b.length:Int))=false:=by simp [hl]
  (have fx:=hb;repeat' (first|(refine hK _ ?_;clear hK K)|refine wa fun K hK=>?_|refine wb ?_|refine wc ?_ ?_|exact we|refine fun (hc:_=(_:Bool))=>?_|clear hK K))
  refine zo (fun q: { i:Nat // i≤a.length∧a.take i=b.take i } =>⟨[(0,true,.d (.sl 3 (a.map snpD))),(1,true,.d (.sl 3 (b.map snpD))),(5,true,.d (.int .i64 q.1))],[],some []⟩) (fun q=>a.length - q.1) ⟨0,Nat.zero_le _,rfl⟩ le0 (fun q=>?_)
  obtain ⟨i,hi,ht⟩:=q
  simp only at hi ht ⊢
  rcases zT snpD a i hi with ⟨u,hq,hlt,hcmp,hrow,hdr,htk⟩|⟨hend,hcmp⟩
  ·obtain ⟨v,hv⟩:=zaj (l:=b) (i:=i) (by omega)
   have hrow2:=za8 (g:=snpD) hv
   simp only [snpD] at hrow hrow2
   have hwi:=zp (i:=i) (by omega)
   have hes:(u.id==v.id&&(u.l1==v.l1&&u.name==v.name))=decide (u=v):=by
    obtain ⟨_,_,_⟩:=u
    obtain ⟨_,_,_⟩:=v
    rw [Bool.eq_iff_iff]
    simp
   by_cases e:u=v
   ·have he:decide (u=v)=true:=decide_eq_true e
    (have fx:=(⟨hcmp,hrow,hrow2,hes,he⟩:_∧_∧_∧_∧_);repeat' (first|(refine hK _ ?_;clear hK K)|refine va fun K hK=>?_|refine vb ?_|refine wc ?_ ?_|exact we|refine fun (hc:_=(_:Bool))=>?_|clear hK K))
    exact ⟨⟨i+1,by omega,by rw [htk,zaZ hv,ht,e]⟩,lew,by simp;omega⟩
   ·have he:decide (u=v)=false:=decide_eq_false e
    (have fx:=(⟨hcmp,hrow,hrow2,hes,he⟩:_∧_∧_∧_∧_);repeat' (first|(refine hK _ ?_;clear hK K)|refine va fun K hK=>?_|refine vb ?_|refine wc ?_ ?_|exact we|refine fun (hc:_=(_:Bool))=>?_|clear hK K))
    rw [decide_eq_false]
    rintro rfl
    rw [hq] at hv
    exact e (Option.some.inj hv)
  ·(have fx:=hcmp;repeat' (first|(refine hK _ ?_;clear hK K)|refine wa fun K hK=>?_|refine wb ?_|refine wc ?_ ?_|exact we|refine fun (hc:_=(_:Bool))=>?_|clear hK K))
   rw [decide_eq_true]
   rw [hend,List.take_length,hl,List.take_length] at ht
   exact ht
 ·have hb:((a.length:Int) !=(b.length:Int))=true:=by simp;omega
  (have fx:=hb;repeat' (first|(refine hK _ ?_;clear hK K)|refine wa fun K hK=>?_|refine wb ?_|refine wc ?_ ?_|exact we|refine fun (hc:_=(_:Bool))=>?_|clear hK K))
  rw [decide_eq_false]
  rintro rfl
  exact hl rfl
@[go_sem] noncomputable def zgy:Ent Tryz.prog 36:= .m2 (slT 3 snpD zdf) (slT 3 snpD zdf) zoU
theorem zsS (x:Img) (h:ImgOk x):AC 24 [imgA x] (.d (.bool (agood x))):=by
 refine fbod Tryz.func24 Tryz.ntmps24 (fun base=>?_)
 (have tk:=za zl7 <| zb Tryz.prog;repeat' (first|(refine hK _ ?_;clear hK K)|refine wa fun K hK=>?_|refine wb ?_|refine wc ?_ ?_|exact we|refine fun (hc:_=(_:Bool))=>?_|clear hK K))
 all_goals first|rfl|skip
@[go_sem] noncomputable def ziJ:Ent Tryz.prog 24:= .m1 zbp zsS
def sw0:Img×Int:=zdA zhP 1 0 [120]
def sw1:Img×Int×Int:=zbW sw0.1 [97]
def sw2:Img×Int:=zdA sw1.1 1 0 [121]
def sw3:Img×Int:=zct sw2.1 1
theorem zun:(sw0.2==0&&sw1.2.2==0&&sw1.2.1==1&&sw2.2==0&&(sread sw2.1 1 1).2==0&&((sread sw2.1 1 1).1.length==128)&&((sread sw2.1 1 1).1.getD 0 0==120)&&sw3.2==0&&(cread sw3.1.disk 0 1).2==0&&((cread sw3.1.disk 0 1).1.getD 0 0==120)&&((cread sw3.1.disk 0 1).1.length==128))=true:=by
 decide+kernel
theorem ImgF.create {x:Img} (h:ImgF x) (n:Txt):ImgF (zbW x n).1:=by
 have hE:∀id q,ImgF (zfv x id q).1:=by intro id q;unfold zfv;split;exact h;split<;>exact h.done _
 have hD:∀r q,ImgF (zfw x r q).1:=by intro r q;unfold zfw;split;exact h;exact hE _ _
 have hC:∀n r a k q,ImgF (zfx x n r a k q).1:=by intro n r a k q;unfold zfx;split;exact h;exact hD _ _
 have hB:∀n r a k q,ImgF (zfy x n r a k q).1:=by intro n r a k q;unfold zfy;split;exact h;exact hC _ _ _ _ _
 have hA:∀n r a q,ImgF (zeH x n r a q).1:=by intro n r a q;unfold zeH;split;exact h;exact hB _ _ _ _ _
 unfold zbW
 repeat (split;exact h)
 exact hA _ _ _ _
theorem ImgF.delete {x:Img} (h:ImgF x) (id:Int):ImgF (zdl x id).1:=by
 have hC:∀q,ImgF (sdelC x q).1:=by intro q;unfold sdelC;split;exact h;exact h.done _
 have hB:∀i q,ImgF (sdelB x i q).1:=by intro i q;unfold sdelB;split;exact h;exact hC _
 have hA:∀i k q,ImgF (sdelA x i k q).1:=by intro i k q;unfold sdelA;split;exact h;exact hB _ _
 unfold zdl
 repeat (split;exact h)
 exact hA _ _ _
theorem ImgF.revert {x:Img} (h:ImgF x) (id:Int):ImgF (zct x id).1:=by
 have hC:∀q:Plan,ImgF (srevC x (cdone x q)).1:=by intro q;unfold srevC;split;exact h.done _;exact (h.done _).marks _
 have hB:∀q,ImgF (srevB x q).1:=by intro q;unfold srevB;split;exact h;exact hC _
 have hA:∀k r q,ImgF (srevA x k r q).1:=by intro k r q;unfold srevA;split;exact h;exact hB _
 have h0:∀k r q,ImgF (srev0 x k r q).1:=by intro k r q;unfold srev0;split;exact h;exact hA _ _ _
 unfold zct
 repeat (split;exact h)
 exact h0 _ _ _
theorem zuo:sw2.1.maps.length=0:=by decide+kernel
theorem zrg:ACall Tryz.prog 25 0 [] [] (fun r _=>r= .d (.bool true)):=by
 have hS:=zre
 have hfin:=zun
 have hmp:=zuo
 obtain ⟨S,hSe⟩:∃S,S=zhP:=⟨_,rfl⟩
 have e0:sw0=zdA S 1 0 [120]:=by rw [hSe];rfl
 obtain ⟨X0,hX0⟩:∃X,X=sw0:=⟨_,rfl⟩
 have e1:sw1=zbW X0.1 [97]:=by rw [hX0];rfl
 obtain ⟨X1,hX1⟩:∃X,X=sw1:=⟨_,rfl⟩
 have e2:sw2=zdA X1.1 1 0 [121]:=by rw [hX1];rfl
 obtain ⟨X2,hX2⟩:∃X,X=sw2:=⟨_,rfl⟩
 have e3:sw3=zct X2.1 1:=by rw [hX2];rfl
 obtain ⟨X3,hX3⟩:∃X,X=sw3:=⟨_,rfl⟩
 rw [← hSe] at hS
 rw [← hX0] at e0
 rw [← hX1] at e1
 rw [← hX2] at e2 hmp
 rw [← hX3] at e3
 rw [← hX0,← hX1,← hX2,← hX3] at hfin
 have hF0:ImgF X0.1:=by rw [e0];exact hS.write _ _ _
 have hF1:ImgF X1.1:=by rw [e1];exact hF0.create _
 have hF2:ImgF X2.1:=by rw [e2];exact hF1.write _ _ _
 have hF3:ImgF X3.1:=by rw [e3];exact hF2.revert _
 have hd3:=hF3.disk
 have hm2:X2.1.maps.length≤5000:=by omega
 simp only [Bool.and_eq_true,beq_iff_eq,decide_eq_true_eq] at hfin
 obtain ⟨⟨⟨⟨⟨⟨⟨⟨⟨⟨f1,f2⟩,f3⟩,f4⟩,f5⟩,f6⟩,f7⟩,f8⟩,f9⟩,g1⟩,g2⟩:=hfin
 refine fbod Tryz.func25 Tryz.ntmps25 (fun base=>?_)
 (have tk:=za zjC <| za zju <| za zgb <| za ze7 <| za zga <| za zr <| zb Tryz.prog;have fx:=(⟨hSe.symm,e0.symm,e1.symm,f3,e2.symm,e3.symm,f1,f2,f4,f5,f6,f8,f9⟩:_∧_∧_∧_∧_∧_∧_∧_∧_∧_∧_∧_∧_);repeat' (first|(refine hK _ ?_;clear hK K)|refine va fun K hK=>?_|refine vb ?_|refine wc ?_ ?_|exact we|refine fun (hc:_=(_:Bool))=>?_|clear hK K))
 all_goals first|omega|skip
 rw [f7,g1]
 rfl
@[go_sem] noncomputable def zhQ:Ent Tryz.prog 25:= .ofL nilL (fun _=>True) (fun _=> .d (.bool true)) (fun _ hp=>⟨rfl,zrg⟩)
theorem zk7 (x:Img) (name:Txt) (id:Int) (guest:Int) (h:ImgOk x) (hn:name.length≤9223372036854775807) (h0:0≤id) (h1:id≤4294967295):ACall Tryz.prog 6 0 [imgA x,.d (.str name),.d (.int .u32 id),.d (.int .i64 guest)] [] (fun r _=>r= .d (.bool true)):=by
 refine fbod Tryz.func6 Tryz.ntmps6 (fun base=>?_)
 cases hg:agood x with
 |false=>(have tk:=za ziJ <| za zhQ <| za zhO <| za zgw <| za zgb <| za zeR <| za zk1 <| za zeS <| za zga <| za zeT <| za ze7 <| za zgx <| za zgy <| za zgu <| zb Tryz.prog;have fx:=hg;repeat' (first|(refine hK _ ?_;clear hK K)|refine wa fun K hK=>?_|refine wb ?_|refine wc ?_ ?_|exact we|refine fun (hc:_=(_:Bool))=>?_|clear hK K))
 |true=>
 obtain ⟨hF,hh⟩:=zum h hg
 have hm:x.maps.length≤5000:=by
  unfold agood at hg
  simp only [Bool.and_eq_true,decide_eq_true_eq] at hg
  omega
 have hC:=(hF.create name).ok
 have hD:=(hF.delete id).ok
 have hR:=(hF.revert id).ok
 have hll:(slist x.disk).1.length≤9223372036854775807:=by
  rw [zhL]
  have:=zdX x.disk
  split
  ·exact Nat.zero_le _
  ·refine Nat.le_trans (List.length_filter_le ..) (by omega)
 (have tk:=za ziJ <| za zhQ <| za zhO <| za zgw <| za zgb <| za zeR <| za zk1 <| za zeS <| za zga <| za zeT <| za ze7 <| za zgx <| za zgy <| za zgu <| zb Tryz.prog);repeat' (first|((first|(refine ga ?_;intro K hK)|refine gb ?_);simp only [go_sem,aeq,aeq.aeqF,simprocAttr,hg,eq_self,Tryz.results6])|refine zj (fun K hK=>?_)|refine sc ?_|refine zi rfl (fun hc=>?_) (fun hc=>?_)|(refine hK _ ?_;clear hK K)|with_reducible refine And.intro ?_ ?_|omega|assumption|refine fun (hg:(_:Bool)=(_:Bool))=>?_|clear hK K)
theorem zup {n:Nat} {x:List D} (h:DTy Tryz.prog (n+1) 53 x):∃a:Int,x= [.int .u32 a]∧0≤a∧a≤4294967295:=by
 unfold DTy at h
 simp only [ty53] at h
 obtain ⟨a,rfl,h1,h2⟩:=h
 exact ⟨a,rfl,h1,h2⟩
theorem zuq (n:Int):argAV Tryz.prog 53 [.int .u32 n]= .d (.int .u32 n):=by simp only [argAV,ty53]
end Go.Aw
