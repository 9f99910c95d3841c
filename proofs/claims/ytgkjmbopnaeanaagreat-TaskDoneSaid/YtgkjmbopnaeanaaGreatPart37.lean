/-
  Parts of the proof: TaskG, TaskL, TaskZ (short names; the readable texts lie in the repo, under wip).
-/
import Derived.Test.YtgkjmbopnaeanaaGreatPart33
import Derived.Test.YtgkjmbopnaeanaaGreatPart35
set_option maxRecDepth 100000
set_option maxHeartbeats 2000000
set_option linter.unusedSimpArgs false
set_option linter.unusedVariables false
namespace Go.Aw
open Go Go.Proofs
def ziD (kind:Int) (chunks:Bool):Int:=if kind=0 then (if chunks then 4 else 0) else if kind=1∨kind=4 then 1 else if kind=6 then 3 else if kind=3∨kind=2 then 0 else if kind=7 then 8 else -1
def cbad1 (f may:Int) (i:Nat):Bool:=(ibits .and .i64 (ishr .i64 f i) 1==1)&&(ibits .and .i64 (ishr .i64 may i) 1==0)
def cbadL (f may:Int):Nat→Nat→Bool
 |_,0=>false
 |i,n+1=>cbad1 f may i||cbadL f may (i+1) n
def cbad (f may:Int):Bool:=cbadL f may 0 16
def zhr (q:Rq) (size:Int) (ms:List Int):Int:=
 if ziD q.kind true<0 then 22 else if cbad q.flags (ziD q.kind true)=true then 22 else if q.kind=2 then 0
 else if q.kind=3 then (if q.frm≠0∨q.len≠0 then 22 else 0)
 else if q.len=0 then 22 else if 1024<q.len then 75
 else if size<q.frm∨size - q.frm<q.len then (if q.kind=1 then 28 else 22)
 else if q.kind=7∧ms.length=0 then 22 else 0
def mtOk:Int→List Int→Bool
 |_,[]=>true
 |p,m::r=>decide (1≤m)&&decide (m≤3)&&decide (p<m)&&mtOk m r
def tgood (x:Img) (q:Rq) (ms:List Int):Bool:=
 mtOk 0 ms&&decide ((x.disk.cache.length:Int)≤300)&&decide ((x.maps.length:Int)≤2)&&ifit x&&decide ((ms.length:Int)≤3)&&(q.kind !=2)&&(zhr q (128*x.geom.guest) ms==0)&&(q.kind !=1||(q.data.length:Int)==q.len)
structure RqOk (q:Rq):Prop where
 c0:0≤q.cookie
 c1:q.cookie<18446744073709551616
 f0:0≤q.frm
 f1:q.frm<18446744073709551616
 l0:0≤q.len
 l1:q.len<4294967296
 d:q.data.length≤9223372036854775807
structure RqF (x:Img) (q:Rq) (ms:List Int):Prop where
 ok:RqOk q
 img:ImgF x
 fit:ifit x=true
 maps:x.maps.length≤2
 g0:1≤x.geom.guest
 g1:x.geom.guest≤64
 kind:q.kind=0∨q.kind=1∨q.kind=3∨q.kind=4∨q.kind=6∨q.kind=7
 len:q.len≤1024
 rng:q.frm+q.len≤128*x.geom.guest
 data:q.kind=1→(q.data.length:Int)=q.len
 one:q.kind≠3→1≤q.len
 lms:ms.length≤3
 mr:∀m∈ms,1≤m∧m≤3
 m0:q.kind=7→ms≠ []
theorem zps:∀ {ms:List Int} {p:Int},mtOk p ms=true→∀m∈ms,1≤m∧m≤3
 | [],_,_,m,hm=>by cases hm
 |a::r,p,h,m,hm=>by
  simp only [mtOk,Bool.and_eq_true,decide_eq_true_eq] at h
  rcases List.mem_cons.1 hm with rfl|hm
  ·exact ⟨h.1.1.1,h.1.1.2⟩
  ·exact zps h.2 m hm
theorem zn4 {q:Rq} {size:Int} {ms:List Int} (h:zhr q size ms=0) (hk:q.kind≠2):(q.kind=3∧q.frm=0∧q.len=0)∨((q.kind=0∨q.kind=1∨q.kind=4∨q.kind=6∨q.kind=7)∧q.len≠0∧q.len≤1024∧q.frm≤size∧q.len≤size - q.frm∧(q.kind=7→ms≠ [])):=by
 unfold zhr at h
 split at h
 ·cases h
 rename_i h1
 split at h
 ·cases h
 split at h
 ·rename_i h2
  split at h
  ·cases h
  ·rename_i h3
   exact .inl ⟨h2,by omega,by omega⟩
 rename_i h2
 split at h
 ·cases h
 rename_i h3
 split at h
 ·cases h
 rename_i h4
 split at h
 ·split at h<;>cases h
 rename_i h5
 split at h
 ·cases h
 rename_i h6
 refine .inr ⟨?_,h3,by omega,by omega,by omega,fun h7 hm=>h6 ⟨h7,by rw [hm];rfl⟩⟩
 unfold ziD at h1
 by_cases k0:q.kind=0
 ·exact .inl k0
 by_cases k1:q.kind=1
 ·exact .inr (.inl k1)
 by_cases k4:q.kind=4
 ·exact .inr (.inr (.inl k4))
 by_cases k6:q.kind=6
 ·exact .inr (.inr (.inr (.inl k6)))
 by_cases k7:q.kind=7
 ·exact .inr (.inr (.inr (.inr k7)))
 rw [if_neg k0,if_neg (by omega),if_neg k6,if_neg (by omega),if_neg k7] at h1
 exact absurd (by decide) h1
theorem zn5 {x:Img} {q:Rq} {ms:List Int} (hx:ImgOk x) (hq:RqOk q) (h:tgood x q ms=true):RqF x q ms:=by
 unfold tgood at h
 simp only [Bool.and_eq_true,decide_eq_true_eq,bne_iff_ne,beq_iff_eq,Bool.or_eq_true] at h
 obtain ⟨⟨⟨⟨⟨⟨⟨h1,h2⟩,h3⟩,h4⟩,h5⟩,h6⟩,h7⟩,h8⟩:=h
 have hg:cgood x=true:=by
  unfold cgood
  rw [decide_eq_true h2,decide_eq_true h3,h4]
  rfl
 have hF:=zwO hx hg
 have hgeo:1≤x.geom.guest∧x.geom.guest≤64:=by
  have h2:=h4
  unfold ifit at h2
  simp only [Bool.and_eq_true] at h2
  have h3:=h2.1.1.1.1.1
  rw [geo_iff] at h3
  omega
 have hc:=zn4 h7 h6
 have f0:=hq.f0
 have l0:=hq.l0
 refine ⟨hq,hF,h4,by omega,hgeo.1,hgeo.2,?_,?_,?_,fun hk=>?_,fun hk=>?_,by omega,zps h1,fun hk=>?_⟩
 ·rcases hc with h|⟨h,_⟩<;>omega
 ·rcases hc with h|⟨h,_⟩<;>omega
 ·rcases hc with h|⟨h,_⟩<;>omega
 ·rcases h8 with h8|h8
  ·exact absurd hk h8
  ·exact h8
 ·rcases hc with h|⟨h,_⟩<;>omega
 ·rcases hc with h|⟨_,_,_,_,_,h⟩
  ·omega
  ·exact h hk
theorem RqF.step {x:Img} {q:Rq} {ms:List Int} (h:RqF x q ms) {y:Img} (hy:ImgF y) (hi:IF x y):RqF y q ms:=
 ⟨h.ok,hy,hi.fit hy h.fit,by rw [hi.len];exact h.maps,by rw [hi.geom];exact h.g0,by rw [hi.geom];exact h.g1,h.kind,h.len,by rw [hi.geom];exact h.rng,h.data,h.one,h.lms,h.mr,h.m0⟩
theorem zs3 {x:Img} {q:Rq} {t:Tsk} {ms:List Int} (hf:RqF x q ms) (h:Tiv q t) (hd:t.done=true) (hs:t.err=0→q.kind=7→t.spans≠ []):zcJ t true≠ []:=by
 have hq:=h.rq
 unfold zcJ
 rw [if_neg (by rw [hd];decide)]
 by_cases he:t.err≠0
 ·rw [if_pos he]
  unfold zdm
  rw [if_neg he,if_pos rfl]
  exact zgu (by decide) (by decide) (by simp [rfail,zu])
 ·rw [if_neg he,if_neg (by decide)]
  split
  ·refine zgu (by decide) (by decide) ?_
   have h1:=h.data
   have h2:=ziz t.cuts t.loc.toNat
   have h3:csz t.cuts≤q.len.toNat:=by
    rw [h.cuts]
    unfold tnew
    simp only
    split
    ·exact ziA
    ·exact Nat.zero_le _
   have h4:=hf.len
   simp only [rdata,List.length_append,zu]
   omega
  ·split
   ·rename_i hk
    exact zl9 _ _ (.inl (hs (by omega) (by rw [← hq];exact hk)))
   ·exact zgu (by decide) (by decide) (by simp)
theorem zn6 {q:Rq} {x:Img} {t:Tsk} {ms:List Int} (h:Tiv q t) (hk:q.kind=7) (hm:ms≠ []) (hp:t.done=true→t.err=0→t.spans≠ []):(tstep x t ms).2.done=true→(tstep x t ms).2.err=0→(tstep x t ms).2.spans≠ []:=by
 unfold tstep
 cases hd:t.done with
 |true=>
  rw [if_pos rfl]
  intro _ h2
  exact hp hd h2
 | false=>
  rw [if_neg (by decide)]
  have hc:t.cuts[t.loc.toNat]?=none:=by
   rw [h.cuts,tnew,hk]
   rfl
  rw [hc]
  simp only
  intro h1 h2
  split
  ·rename_i h3
   rw [if_pos h3] at h2
   simp only [tfail] at h2
   split at h2<;>cases h2
  ·rename_i h3
   rw [tlast,h.rq,if_pos hk] at h3 ⊢
   simp only at h3 ⊢
   have:=zjL ms [] (by simpa using h3)
   intro h4
   rw [h4] at this
   simp at this
   exact hm (List.length_eq_zero_iff.1 this.symm)
theorem ziE {q:Rq} {ms:List Int} (hl:ms.length≤3) (hk:q.kind=7) (hm:ms≠ []):∀ (n:Nat) {x:Img} {t:Tsk},Tiv q t→(t.done=true→t.err=0→t.spans≠ [])→(trunN ms n x t).2.done=true→(trunN ms n x t).2.err=0→(trunN ms n x t).2.spans≠ []
 |0,x,t,_,hp=>hp
 |n+1,x,t,h,hp=>by
  rw [trunN]
  exact ziE hl hk hm n (h.step x ms hl) (zn6 h hk hm hp)
theorem zwW {x:Img} {q:Rq} {ms:List Int} (hf:RqF x q ms):zcJ (trun x q ms).2 true≠ []:=by
 obtain ⟨_,_,h⟩:=zhI hf.img q hf.lms
 have hd:=zl7 (x:=x) q hf.lms
 refine zs3 hf h hd (fun he hk=>?_)
 exact ziE hf.lms hk (hf.m0 hk) _ (Tiv.new q) (fun h=>by simp [tnew] at h) hd he
open Go Go.Proofs
structure Tw where
 q:Rq
 cuts:List (Nat×Nat×Nat)
 loc:Int
 err:Int
 data:Txt
 spans:List Spn
 done:Bool
 x:Img
 ms:List Int
 c0:Int
 c1:Int
 c2:Int
def twV (s:Tw) (v:AV):List AV:= [.d (.int .i64 s.q.flags),.d (.int .i64 s.q.kind),.d (.int .u64 s.q.cookie),.d (.int .u64 s.q.frm),.d (.int .u32 s.q.len),.d (.str s.q.data),.d (.sl 3 (s.cuts.map cutD)),.d (.int .i64 s.loc),.d (.int .u32 s.err),.d (.str s.data),v,.d (.bool s.done),.d (.str s.x.disk.data),.d (.sl 2 (s.x.disk.cache.map putD)),.d (.int .i64 s.x.disk.fuse),.d (.bool s.x.disk.off),.d (.sl 1 (s.x.disk.bad.map intD)),.d (.int .i64 s.x.geom.guest),.d (.int .i64 s.x.geom.host),.d (.int .u64 s.x.jour.seq),.d (.int .i64 s.x.jour.pos),.d (.sl 66 (s.x.maps.map dmapD)),.d (.bool s.x.broken),.d (.sl 1 (s.ms.map u32D)),.d (.int .i64 s.c0),.d (.int .i64 s.c1),.d (.int .i64 s.c2)]
attribute [go_sem] twV
theorem zec {s:Tw} {v:AV} (hv:v.ids= []):∀j∈(AObj.var (twV s v)).ids,j=4:=by
 simp [AObj.ids,twV,AV.idsL,AV.ids,hv]
structure TwOk (s:Tw):Prop where
 ok:RqOk s.q
 img:ImgF s.x
 g0:0≤s.x.geom.guest
 maps:s.x.maps.length≤5000
 c0:0≤s.c0
 c1:0≤s.c1
 c2:0≤s.c2
 at_:s.c0*128+s.c1≤1000000
 n:s.c2≤128
 wr:s.q.kind=1→s.q.frm≤s.c0*128+s.c1∧s.c0*128+s.c1+s.c2≤s.q.frm+s.q.data.length
 data:s.data.length≤1000000
theorem zvQ (s:Tw) (h0:0≤s.c0) (h1:0≤s.c1) (h2:s.c0*128+s.c1≤1000000):ACall Tryz.prog 85 60 [.vp 4 0] [(4,.var (twV s (.nils 2)))] (fun r h'=>∃ob',h'= [(4,ob')]∧r= .d (.int .i64 (s.c0*128+s.c1))∧ob'= .var (twV s (.nils 2))):=by
 refine bod Tryz.func85 Tryz.ntmps85 (fun base=>?_)
 have hw1:IntKind.i64.wrap (s.c0*128)=s.c0*128:=ze (by omega) (by omega)
 have hw2:IntKind.i64.wrap (s.c0*128+s.c1)=s.c0*128+s.c1:=ze (by omega) (by omega)
 refine' zc (zk hw1 hw2)
 all_goals first|exact ⟨_,rfl,rfl,rfl⟩|exact ⟨_,rfl,rfl⟩|skip
theorem zvf (s:Tw) (h:TwOk s):ACall Tryz.prog 44 40 [.vp 4 0] [(4,.var (twV s (.nils 2)))] (fun r h'=>∃ob',h'= [(4,ob')]∧r= .d (.int .i64 (iread s.x (s.c0*128+s.c1) s.c2).2)∧ob'= .var (twV { s with data:=s.data++(iread s.x (s.c0*128+s.c1) s.c2).1 } (.nils 2))):=by
 refine zQ (fun i=>decide (i=4)) ?_
 refine bod Tryz.func44 Tryz.ntmps44 (fun base=>?_)
 have hi:=h.img
 have hg:=h.g0
 have hc0:=h.c0
 have hc1:=h.c1
 have hat:=h.at_
 have hdl:=h.data
 obtain ⟨R,hR⟩:∃R,R=iread s.x (s.c0*128+s.c1) s.c2:=⟨_,rfl⟩
 have hRl:=zl4 (x:=s.x) (a:=s.c0*128+s.c1) (n:=s.c2)
 have hn:=h.n
 rw [← hR] at hRl ⊢
 refine' zhe (ownsL [2000085]) hR.symm (za zby <| za zaK <| za zah <| za zb0 <| za za9 <| zb _)
 refine ⟨4,60,.var (twV s (.nils 2)),_,rfl,by decide,zec rfl,by simp [AV.idsL,AV.ids],fix1 (zvQ s hc0 hc1 hat),?_⟩
 simp only [go_sem,aeq,aeq.aeqF,simprocAttr,← hR]
 refine' zhe (ownsL [2000085]) hR.symm (za zby <| za zaK <| za zah <| za zb0 <| za za9 <| zb _)
 all_goals first|omega|exact ⟨_,rfl,rfl,rfl⟩|exact ⟨_,rfl,rfl⟩|skip
theorem ztf (s:Tw) (b:Txt) (h:ImgF s.x) (hm:s.x.maps.length≤5000) (hb:b.length≤9223372036854775807):ACall Tryz.prog 86 40 [.vp 4 0,.d (.str b)] [(4,.var (twV s (.nils 2)))] (fun r h'=>∃ob',h'= [(4,ob')]∧r= .d (.int .i64 (zbk s.x s.c0 s.c1 b).2)∧ob'= .var (twV { s with x:=(zbk s.x s.c0 s.c1 b).1 } (.nils 2))):=by
 refine zQ (fun i=>decide (i=4)) ?_
 refine bod Tryz.func86 Tryz.ntmps86 (fun base=>?_)
 refine' walkW fx (za zby <| za zaK <| za zah <| za zb0 <| za za9 <| zb _)
 all_goals first|omega|exact ⟨_,rfl,rfl,rfl⟩|exact ⟨_,rfl,rfl⟩|skip
theorem ztg (s:Tw) (h:TwOk s) (hk:s.q.kind=1):ACall Tryz.prog 45 30 [.vp 4 0] [(4,.var (twV s (.nils 2)))] (fun r h'=>∃ob',h'= [(4,ob')]∧r= .d (.int .i64 (zbk s.x s.c0 s.c1 ((s.q.data.take (s.c0*128+s.c1 - s.q.frm+s.c2).toNat).drop (s.c0*128+s.c1 - s.q.frm).toNat)).2)∧ob'= .var (twV { s with x:=(zbk s.x s.c0 s.c1 ((s.q.data.take (s.c0*128+s.c1 - s.q.frm+s.c2).toNat).drop (s.c0*128+s.c1 - s.q.frm).toNat)).1 } (.nils 2))):=by
 refine zQ (fun i=>decide (i=4)) ?_
 refine bod Tryz.func45 Tryz.ntmps45 (fun base=>?_)
 have hc0:=h.c0
 have hc1:=h.c1
 have hc2:=h.c2
 have hat:=h.at_
 have hn:=h.n
 have hds:=h.ok.d
 have hf0:=h.ok.f0
 obtain ⟨hw1,hw2⟩:=h.wr hk
 obtain ⟨f,hf⟩:∃f,f=s.c0*128+s.c1 - s.q.frm:=⟨_,rfl⟩
 have hwf:IntKind.i64.wrap s.q.frm=s.q.frm:=ze (by omega) (by omega)
 have hwg:IntKind.i64.wrap (s.c0*128+s.c1 - s.q.frm)=f:=by rw [hf];exact ze (by omega) (by omega)
 have hwh:IntKind.i64.wrap (f+s.c2)=f+s.c2:=ze (by omega) (by omega)
 rw [← hf]
 obtain ⟨b,hb⟩:∃b,b=(s.q.data.take (f+s.c2).toNat).drop f.toNat:=⟨_,rfl⟩
 have hbl:b.length≤9223372036854775807:=by rw [hb,List.length_drop,List.length_take];omega
 rw [← hb]
 refine' zhe (ownsL [2000085]) (zk hwf hwg) (za zby <| za zaK <| za zah <| za zb0 <| za za9 <| zb _)
 refine ⟨4,60,.var (twV s (.nils 2)),_,rfl,by decide,zec rfl,by simp [AV.idsL,AV.ids],fix1 (zvQ s hc0 hc1 hat),?_⟩
 simp only [go_sem,aeq,aeq.aeqF,simprocAttr,hwf,hwg]
 refine' zhe (ownsL [1000086]) (zk hwh hb.symm) (za zby <| za zaK <| za zah <| za zb0 <| za za9 <| zb _)
 all_goals first|omega|skip
 refine ⟨4,40,.var (twV s (.nils 2)),_,_,rfl,by decide,zec rfl,by simp [AV.idsL,AV.ids],fix1 (ztf s b h.img h.maps hbl),?_⟩
 simp only [go_sem,aeq,aeq.aeqF,simprocAttr]
 refine' zhe (ownsL [1000086]) fx (za zby <| za zaK <| za zah <| za zb0 <| za za9 <| zb _)
 all_goals first|omega|exact ⟨_,rfl,rfl,rfl⟩|exact ⟨_,rfl,rfl⟩|skip
theorem zmq (s:Tw) (hole:Bool) (h:TwOk s) (g0 g1 g2:Nat) (e0:s.c0=g0) (e1:s.c1=g1) (e2:s.c2=g2):ACall Tryz.prog 87 30 [.vp 4 0,.d (.bool hole)] [(4,.var (twV s (.nils 2)))] (fun r h'=>∃ob',h'= [(4,ob')]∧r= .d (.int .i64 (zbE hole (g0,g1,g2) s.x).2)∧ob'= .var (twV { s with x:=(zbE hole (g0,g1,g2) s.x).1 } (.nils 2))):=by
 refine zQ (fun i=>decide (i=4)) ?_
 refine bod Tryz.func87 Tryz.ntmps87 (fun base=>?_)
 have hn:=h.n
 have him:=h.img
 have hmm:=h.maps
 obtain ⟨W,hW⟩:∃W,W=zbE hole (g0,g1,g2) s.x:=⟨_,rfl⟩
 rw [← hW]
 unfold zbE at hW
 simp only at hW
 by_cases hg:g2=128
 ·have hb:decide (s.c2<128)=false:=decide_eq_false (by omega)
  rw [if_pos hg,← e0] at hW
  refine' walkW (zk hb hW.symm) (za zby <| za zaK <| za zah <| za zb0 <| za za9 <| zb _)
  all_goals first|omega|exact ⟨_,rfl,rfl,rfl⟩|exact ⟨_,rfl,rfl⟩|skip
 ·have hb:decide (s.c2<128)=true:=decide_eq_true (by omega)
  rw [if_neg hg,← e0,← e1] at hW
  have hr:s.c2.toNat=g2:=by omega
  have hrl:(List.replicate g2 (0:UInt8)).length≤9223372036854775807:=by rw [List.length_replicate];omega
  have hc2:=h.c2
  refine' walkW (zk hb hr) (za zby <| za zaK <| za zah <| za zb0 <| za za9 <| zb _)
  all_goals first|omega|skip
  refine (zco (fix1 (ztf s (List.replicate g2 0) him hmm hrl)) (by decide) rfl (zec rfl) (by simp [AV.idsL,AV.ids])).mono ?_
  rintro r h' ⟨rfl,rfl⟩
  simp only [go_sem,aeq,aeq.aeqF,simprocAttr]
  refine' zc fx
  all_goals first|omega|(rw [hW];exact ⟨_,rfl,rfl,rfl⟩)|(rw [hW];exact ⟨_,rfl,rfl⟩)|skip
theorem zvg (s:Tw) (h:TwOk s) (g0 g1 g2:Nat) (e0:s.c0=g0) (e1:s.c1=g1) (e2:s.c2=g2):ACall Tryz.prog 46 20 [.vp 4 0] [(4,.var (twV s (.nils 2)))] (fun r h'=>∃ob',h'= [(4,ob')]∧r= .d (.int .i64 (zbE true (g0,g1,g2) s.x).2)∧ob'= .var (twV { s with x:=(zbE true (g0,g1,g2) s.x).1 } (.nils 2))):=by
 refine bod Tryz.func46 Tryz.ntmps46 (fun base=>?_)
 refine' zc fx
 refine (zco (fix1 (zmq s true h g0 g1 g2 e0 e1 e2)) (by decide) rfl (zec rfl) (by simp [AV.idsL,AV.ids])).mono ?_
 rintro r h' ⟨rfl,rfl⟩
 simp only [go_sem,aeq,aeq.aeqF,simprocAttr]
 refine' zc fx
 all_goals first|exact ⟨_,rfl,rfl,rfl⟩|exact ⟨_,rfl,rfl⟩|skip
theorem zvh (s:Tw) (h:TwOk s) (g0 g1 g2:Nat) (e0:s.c0=g0) (e1:s.c1=g1) (e2:s.c2=g2):ACall Tryz.prog 47 20 [.vp 4 0] [(4,.var (twV s (.nils 2)))] (fun r h'=>∃ob',h'= [(4,ob')]∧r= .d (.int .i64 (zbE (!hasF s.q.flags 2) (g0,g1,g2) s.x).2)∧ob'= .var (twV { s with x:=(zbE (!hasF s.q.flags 2) (g0,g1,g2) s.x).1 } (.nils 2))):=by
 refine bod Tryz.func47 Tryz.ntmps47 (fun base=>?_)
 have hb:(ibits .and .i64 s.q.flags 2==0)= !hasF s.q.flags 2:=by unfold hasF;simp [bne]
 refine' zc hb
 refine (zco (fix1 (zmq s (!hasF s.q.flags 2) h g0 g1 g2 e0 e1 e2)) (by decide) rfl (zec rfl) (by simp [AV.idsL,AV.ids])).mono ?_
 rintro r h' ⟨rfl,rfl⟩
 simp only [go_sem,aeq,aeq.aeqF,simprocAttr]
 refine' zc fx
 all_goals first|exact ⟨_,rfl,rfl,rfl⟩|exact ⟨_,rfl,rfl⟩|skip
theorem zth (s:Tw) (h:ImgF s.x):ACall Tryz.prog 89 30 [.vp 4 0] [(4,.var (twV s (.nils 2)))] (fun r h'=>∃ob',h'= [(4,ob')]∧r= .d (.int .i64 (zdp s.x).2)∧ob'= .var (twV { s with x:=(zdp s.x).1 } (.nils 2))):=by
 refine zQ (fun i=>decide (i=4)) ?_
 refine bod Tryz.func89 Tryz.ntmps89 (fun base=>?_)
 refine' walkW fx (za zby <| za zaK <| za zah <| za zb0 <| za za9 <| zb _)
 all_goals first|omega|exact ⟨_,rfl,rfl,rfl⟩|exact ⟨_,rfl,rfl⟩|skip
open Go Go.Proofs
theorem zop {n:Nat} {x:List D} (h:DTy Tryz.prog (n+1) 34 x):∃a:Int,x= [.int .u32 a]∧0≤a∧a≤4294967295:=by
 unfold DTy at h
 simp only [ty34] at h
 obtain ⟨a,rfl,h1,h2⟩:=h
 exact ⟨a,rfl,h1,h2⟩
theorem ztt {n:Nat} {x:List D} (h:DTy Tryz.prog (n+1) 28 x):∃a:Int,x= [.int .u64 a]∧0≤a∧a≤18446744073709551615:=by
 unfold DTy at h
 simp only [ty28] at h
 obtain ⟨a,rfl,h1,h2⟩:=h
 exact ⟨a,rfl,h1,h2⟩
theorem zpy {n:Nat} {x:List D} (h:DTy Tryz.prog (n+2) 37 x):∃l:List Int,l.length≤9223372036854775807∧x= [.sl 1 (l.map u32D)]:=by
 unfold DTy at h
 simp only [ty37] at h
 obtain ⟨rows,rfl,hl,hr⟩:=h
 obtain ⟨l,rfl⟩:=zgi (e:=u32D) (fun r h'=>(zop (hr r h')).imp fun s h=>h.1)
 exact ⟨l,by simpa using hl,by rw [ty34]⟩
def rqD (q:Rq):List D:= [.int .i64 q.flags,.int .i64 q.kind,.int .u64 q.cookie,.int .u64 q.frm,.int .u32 q.len,.str q.data]
theorem ztu {n:Nat} {x:List D} (h:DTy Tryz.prog (n+2) 36 x):∃q:Rq,RqOk q∧x=rqD q:=by
 unfold DTy at h
 simp only [ty36,DTy.fields] at h
 obtain ⟨a1,b1,rfl,g1,a2,b2,rfl,g2,a3,b3,rfl,g3,a4,b4,rfl,g4,a5,b5,rfl,g5,a6,b6,rfl,g6,rfl⟩:=h
 obtain ⟨f,rfl,_⟩:=zfl g1
 obtain ⟨k,rfl,_⟩:=zfl g2
 obtain ⟨c,rfl,q1,q2⟩:=ztt g3
 obtain ⟨r,rfl,q3,q4⟩:=ztt g4
 obtain ⟨l,rfl,q5,q6⟩:=zop g5
 obtain ⟨s,rfl,q7⟩:=zkD g6
 exact ⟨⟨f,k,c,r,l,s⟩,⟨q1,by simp only;omega,q3,by simp only;omega,q5,by simp only;omega,q7⟩,rfl⟩
theorem ztv (q:Rq):argAV Tryz.prog 36 (rqD q)=rqA q:=by simp only [argAV,ty36];rfl
theorem zw4 (n:Int):argAV Tryz.prog 34 [.int .u32 n]= .d (.int .u32 n):=by simp only [argAV,ty34]
theorem zpz (rows:List (List D)):argAV Tryz.prog 37 [.sl 1 rows]= .d (.sl 1 rows):=by simp only [argAV,ty37]
theorem zvq (b:Bool):argAV Tryz.prog 4 [.bool b]= .d (.bool b):=by simp only [argAV,ty4]
end Go.Aw
