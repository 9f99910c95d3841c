/-
  Parts of the proof: CowA, CowB, CowC, CowQ (short names; the readable texts lie in the repo, under wip).
-/
import Derived.Test.YtgkjmbopnaeanaaGreatPart11
import Derived.Test.YtgkjmbopnaeanaaGreatPart20
import Derived.Test.YtgkjmbopnaeanaaGreatPart22
set_option maxRecDepth 100000
set_option maxHeartbeats 2000000
set_option linter.unusedSimpArgs false
set_option linter.unusedVariables false
namespace Go.Aw
open Go Go.Proofs
structure Dmap where
 name:Txt
 inuse:Bool
 bits:List Bool
 deriving DecidableEq
def dmapD (m:Dmap):List D:= .str m.name:: .bool m.inuse::m.bits.map .bool
theorem zin:∀ {a b:List Bool},a.map D.bool=b.map D.bool→a=b
 | [],[],_=>rfl
 | [],_::_,h=>by simp at h
 |_::_,[],h=>by simp at h
 |x::a,y::b,h=>by
  simp only [List.map_cons,List.cons.injEq,D.bool.injEq] at h
  rw [h.1,zin h.2]
theorem zfe:∀a b,dmapD a=dmapD b→a=b:=by
 rintro ⟨n,u,b⟩ ⟨n',u',b'⟩ h
 simp only [dmapD,List.cons.injEq,D.str.injEq,D.bool.injEq] at h
 rw [h.1,h.2.1,zin h.2.2]
structure Img where
 disk:Disk
 geom:Geom
 jour:Jour
 maps:List Dmap
 broken:Bool
 deriving DecidableEq
def imgA (x:Img):AV:= .agg [.d (.str x.disk.data),.d (.sl 2 (x.disk.cache.map putD)),.d (.int .i64 x.disk.fuse),.d (.bool x.disk.off),.d (.sl 1 (x.disk.bad.map intD)),.d (.int .i64 x.geom.guest),.d (.int .i64 x.geom.host),.d (.int .u64 x.jour.seq),.d (.int .i64 x.jour.pos),.d (.sl 66 (x.maps.map dmapD)),.d (.bool x.broken)]
attribute [go_sem] imgA
theorem zwz (x:Img):Img.mk x.disk x.geom x.jour x.maps x.broken=x:=rfl
noncomputable def zaO:PT Img:=aggT (consL strT (consL (slT 2 putD zhB) (consL (intT .i64) (consL boolT (consL (slT 1 intD zc2) (consL (intT .i64) (consL (intT .i64) (consL (intT .u64) (consL (intT .i64) (consL (slT 66 dmapD zfe) (consL boolT nilL))))))))))) (fun p=>⟨⟨p.1,p.2.1,p.2.2.1,p.2.2.2.1,p.2.2.2.2.1⟩,⟨p.2.2.2.2.2.1,p.2.2.2.2.2.2.1⟩,⟨p.2.2.2.2.2.2.2.1,p.2.2.2.2.2.2.2.2.1⟩,p.2.2.2.2.2.2.2.2.2.1,p.2.2.2.2.2.2.2.2.2.2.1⟩) (fun x=>(x.disk.data,x.disk.cache,x.disk.fuse,x.disk.off,x.disk.bad,x.geom.guest,x.geom.host,x.jour.seq,x.jour.pos,x.maps,x.broken,())) (fun _=>rfl)
attribute [go_sem] zaO
attribute [go_sem] zwz
structure ImgOk (x:Img):Prop where
 disk:DiskOk x.disk
 maps:x.maps.length≤9223372036854775807
 names:∀m∈x.maps,m.name.length≤9223372036854775807
 bits:∀m∈x.maps,m.bits.length=64
def mfit (n0:Txt):Nat→List Dmap→Bool
 |_,[]=>true
 |i,m::r=>zh9 m.name&&m.inuse&& !(decide (0<i)&&(n0==m.name))&&mfit n0 (i+1) r
def ifit (x:Img):Bool:=
 zel x.geom.guest x.geom.host&&dfit x.disk&&((dsize x.disk:Int)==zia x.geom.guest x.geom.host)&&jfit x.jour&&decide (x.maps.length≤2)&&mfit (x.maps.head?.map (·.name) |>.getD []) 0 x.maps
theorem zss (x:Img) (h:ImgOk x):AC 23 [imgA x] (.d (.bool (ifit x))):=by
 refine fbod Tryz.func23 Tryz.ntmps23 (fun base=>?_)
 have h1:=h.disk
 have h2:=h.maps
 by_cases hc0:(!zel x.geom.guest x.geom.host|| !dfit x.disk||((dsize x.disk:Int) !=zia x.geom.guest x.geom.host)|| !jfit x.jour||decide (2<(x.maps.length:Int)))=true
 ·refine' walkW hc0 (za zdz <| za zfx <| za zbs <| za zfz <| za zfB <| za zd7 <| zb _)
  have:ifit x=false:=by
   simp only [Bool.or_eq_true,Bool.not_eq_true',bne_iff_ne,decide_eq_true_eq] at hc0
   unfold ifit
   rcases hc0 with (((hh|hh)|hh)|hh)|hh
   ·rw [hh];simp
   ·rw [hh];simp
   ·rw [beq_eq_false_iff_ne.2 hh];simp
   ·rw [hh];simp
   ·rw [decide_eq_false (p:=x.maps.length≤2) (by omega)];simp
  rw [this]
 have hc0:(!zel x.geom.guest x.geom.host|| !dfit x.disk||((dsize x.disk:Int) !=zia x.geom.guest x.geom.host)|| !jfit x.jour||decide (2<(x.maps.length:Int)))=false:=by simpa using hc0
 have hfit:ifit x=mfit (x.maps.head?.map (·.name) |>.getD []) 0 x.maps:=by
  simp only [Bool.or_eq_false_iff,Bool.not_eq_false',bne_eq_false_iff_eq,decide_eq_false_iff_not] at hc0
  rw [ifit,hc0.1.1.1.1,hc0.1.1.1.2,hc0.1.2,beq_iff_eq.2 hc0.1.1.2,decide_eq_true (p:=x.maps.length≤2) (by omega)]
  rfl
 refine' walkW hc0 (za zdz <| za zfx <| za zbs <| za zfz <| za zfB <| za zd7 <| zb _)
 obtain ⟨N0,hN0⟩:∃N0,N0=(x.maps.head?.map (·.name) |>.getD []):=⟨_,rfl⟩
 rw [← hN0] at hfit
 refine zo (fun q: { i:Nat // i≤x.maps.length∧ifit x=mfit N0 i (x.maps.drop i) } =>⟨[(1,true,.vp 0 0),(3,true,.d (.int .i64 q.1))],[(0,.var [.d (.str x.disk.data),.d (.sl 2 (x.disk.cache.map putD)),.d (.int .i64 x.disk.fuse),.d (.bool x.disk.off),.d (.sl 1 (x.disk.bad.map intD)),.d (.int .i64 x.geom.guest),.d (.int .i64 x.geom.host),.d (.int .u64 x.jour.seq),.d (.int .i64 x.jour.pos),.d (.sl 66 (x.maps.map dmapD)),.d (.bool x.broken)])],some []⟩) (fun q=>x.maps.length - q.1) ⟨0,Nat.zero_le _,hfit⟩ le1 (fun q=>?_)
 obtain ⟨i,hi,hf⟩:=q
 simp only at hi hf ⊢
 rcases zD dmapD x.maps i hi with ⟨m,hq,hlt,hcmp,hrow,hdr,htk⟩|⟨hend,hcmp⟩
 ·obtain ⟨m0,hq0⟩:=zai (l:=x.maps) (i:=0) (by omega)
  have hrow0:=za1 (g:=dmapD) hq0
  simp only [dmapD] at hrow hrow0
  have hpos:decide ((0:Int)<(x.maps.length:Int))=true:=decide_eq_true (by omega)
  have hwi:=zn (i:=i) (by omega)
  have hnl:=h.names m (List.mem_of_getElem? hq)
  have hN:N0=m0.name:=by rw [hN0,List.head?_eq_getElem?,hq0];rfl
  rw [hdr,mfit,hN] at hf
  have hall:(!zh9 m.name|| !m.inuse||(decide ((0:Int)<(i:Int))&&(m0.name==m.name)))= !(zh9 m.name&&m.inuse&& !(decide (0<i)&&(m0.name==m.name))):=by
   rw [Bool.not_and,Bool.not_and,Bool.not_not,show decide ((0:Int)<(i:Int))=decide (0<i) from zxq]
  refine' walkW (zaH hcmp hrow hrow0 hpos natC) (za zdz <| za zfx <| za zbs <| za zfz <| za zfB <| za zd7 <| zb _)
  ·rename_i hg0
   rw [hg0,hc];rfl
  ·rw [hall] at hc
   simp only [Bool.not_eq_true'] at hc
   rw [hf,hc,Bool.false_and]
  ·rw [hall] at hc
   simp only [Bool.not_eq_false'] at hc
   rw [hc,Bool.true_and,← hN] at hf
   exact ⟨⟨i+1,by omega,hf⟩,lew,by simp;omega⟩
 ·refine' walkW hcmp (za zdz <| za zfx <| za zbs <| za zfz <| za zfB <| za zd7 <| zb _)
  rw [hf,hend,List.drop_length]
  rfl
@[go_sem] noncomputable def zio:Ent Tryz.prog 23:= .m1 zaO zss
theorem zuz {n:Nat} {a b:List Bool} (ha:a.length=n) (hb:b.length=n):((List.range n).all fun i=>a.getD i false==b.getD i false)=decide (a=b):=by
 rw [Bool.eq_iff_iff,List.all_eq_true,decide_eq_true_eq]
 constructor
 ·intro h
  apply List.ext_getElem (by omega)
  intro i h1 h2
  have:=h i (by simp;omega)
  simpa [List.getD_eq_getElem?_getD,h1,h2] using this
 ·rintro rfl i _
  simp
theorem zjF {P:Program} {e:Nat} (he:(ty P e).td= .bool) {a b:List Bool} {n d:Nat} (ha:a.length=n) (hb:b.length=n):∀l:List Nat,(∀i∈l,i<n)→
  aeq.aeqF P (l.map fun i=>(i,e)) (a.map fun x=>AV.d (.bool x)) (b.map fun x=>AV.d (.bool x)) (fun f=>aeq P (d+1) f)=(True,l.all fun i=>a.getD i false==b.getD i false)
 | [],_=>rfl
 | i::l,h=>by
  have ih:=zjF he ha hb (d:=d) l (fun j hj=>h j (by simp [hj]))
  have hi:i<n:=h i (by simp)
  have hx:∀ (c:List Bool),c.length=n→apart P e (c.map fun x=>AV.d (.bool x)) i= .d (.bool (c.getD i false)):=fun c hc=>by
   unfold apart
   rw [he]
   simp [TD.agg,List.getD_eq_getElem?_getD,hc,hi]
  simp only [List.map_cons,aeq.aeqF,ih,hx a ha,hx b hb]
  have h1:aeq P (d+1) e (.d (.bool (a.getD i false))) (.d (.bool (b.getD i false)))=(True,a.getD i false==b.getD i false):=by
   unfold aeq
   rw [he]
  rw [h1]
  have hp:psize P e=1:=by unfold psize;rw [he];rfl
  simp only [he,hp,List.length_map,ha,hb,List.all_cons,ne_eq,reduceCtorEq,not_false_eq_true,true_and,and_true]
  rw [eq_true (show i+1≤n∧i+1≤n from ⟨hi,hi⟩)]
theorem zuA {P:Program} {t e:Nat} (ht:(ty P t).td= .arr 64 e) (he:(ty P e).td= .bool) (hz:(ty P e).size=1) {a b:List Bool} {d:Nat} (ha:a.length=64) (hb:b.length=64):
  aeq P (d+2) t (.agg (a.map fun x=>AV.d (.bool x))) (.agg (b.map fun x=>AV.d (.bool x)))=(True,decide (a=b)):=by
 have:=zjF he ha hb (d:=d) (List.range 64) (fun i hi=>by simpa using hi)
 unfold aeq
 simp only [ht,hz,Nat.mul_one]
 rw [this,zuz ha hb]
 simp only [he,ne_eq,reduceCtorEq,not_false_eq_true,and_true]
theorem zpa (l:List Bool):(l.map D.bool).map AV.d=l.map fun x=>AV.d (.bool x):=by rw [List.map_map];rfl
open Go Go.Proofs
theorem zuB {P:Program} {t s b a e:Nat} (ht:(ty P t).td= .struct [(0,s),(1,b),(2,a)]) (hs:(ty P s).td= .str) (hb:(ty P b).td= .bool) (ha:(ty P a).td= .arr 64 e) (he:(ty P e).td= .bool) (hz:(ty P e).size=1) (hza:(ty P a).size=64) (hst:P.stoodInHeld t=false)
  {m m':Dmap} (hm:m.bits.length=64) (hm':m'.bits.length=64):
  aeq P 12 t (.agg (.d (.str m.name):: .d (.bool m.inuse)::(m.bits.map D.bool).map AV.d)) (.agg (.d (.str m'.name):: .d (.bool m'.inuse)::(m'.bits.map D.bool).map AV.d))=(True,decide (m=m')):=by
 have h1:=zuA (P:=P) (t:=a) ha he hz (d:=9) hm hm'
 have hl:∀c:List Bool,c.length=64→List.take 64 (c.map fun x=>AV.d (.bool x))=c.map fun x=>AV.d (.bool x):=fun c hc=>List.take_of_length_le (by simp [hc])
 rw [zpa,zpa]
 have p0:∀c:Dmap,apart P s (.d (.str c.name):: .d (.bool c.inuse)::(c.bits.map fun x=>AV.d (.bool x))) 0= .d (.str c.name):=fun c=>by unfold apart;rw [hs];rfl
 have p1:∀c:Dmap,apart P b (.d (.str c.name):: .d (.bool c.inuse)::(c.bits.map fun x=>AV.d (.bool x))) 1= .d (.bool c.inuse):=fun c=>by unfold apart;rw [hb];rfl
 have p2:∀c:Dmap,c.bits.length=64→apart P a (.d (.str c.name):: .d (.bool c.inuse)::(c.bits.map fun x=>AV.d (.bool x))) 2= .agg (c.bits.map fun x=>AV.d (.bool x)):=fun c hc=>by
  unfold apart
  rw [ha,hza]
  simp only [TD.agg,if_true,List.drop_succ_cons,List.drop_zero,hl c.bits hc]
 have q0:psize P s=1:=by unfold psize;rw [hs];rfl
 have q1:psize P b=1:=by unfold psize;rw [hb];rfl
 have q2:psize P a=64:=by unfold psize;rw [ha,hza];rfl
 have e0:aeq P 11 s (.d (.str m.name)) (.d (.str m'.name))=(True,m.name==m'.name):=by unfold aeq;rw [hs]
 have e1:aeq P 11 b (.d (.bool m.inuse)) (.d (.bool m'.inuse))=(True,m.inuse==m'.inuse):=by unfold aeq;rw [hb]
 unfold aeq
 simp only [ht,hst,aeq.aeqF,p0,p1,p2 m hm,p2 m' hm',q0,q1,q2,e0,e1,h1,hs,hb,ha,List.length_cons,List.length_map,hm,hm',ne_eq,reduceCtorEq,not_false_eq_true,true_and,and_true,Bool.and_true]
 refine Prod.ext (by simp) ?_
 simp only
 rw [Bool.eq_iff_iff]
 simp only [Bool.and_eq_true,beq_iff_eq,decide_eq_true_eq]
 obtain ⟨n,u,l⟩:=m
 obtain ⟨n',u',l'⟩:=m'
 simp
theorem zlU (a b:List Dmap) (hp:a.length≤9223372036854775807∧b.length≤9223372036854775807∧(∀m∈a,m.bits.length=64)∧(∀m∈b,m.bits.length=64)):AC 29 [.d (.sl 66 (a.map dmapD)),.d (.sl 66 (b.map dmapD))] (.d (.bool (decide (a=b)))):=by
 obtain ⟨ha,hb,hla,hlb⟩:=hp
 refine fbod Tryz.func29 Tryz.ntmps29 (fun base=>?_)
 by_cases hl:a.length=b.length
 ·have hb0:((a.length:Int) !=(b.length:Int))=false:=by rw [hl];simp
  refine' zc hb0
  refine zo (fun q: { i:Nat // i≤a.length∧decide (a=b)=decide (a.drop i=b.drop i) } =>⟨[(0,true,.d (.sl 66 (a.map dmapD))),(1,true,.d (.sl 66 (b.map dmapD))),(5,true,.d (.int .i64 q.1))],[],some []⟩) (fun q=>a.length - q.1) ⟨0,Nat.zero_le _,rfl⟩ le1 (fun q=>?_)
  obtain ⟨i,hi,hf⟩:=q
  simp only at hi hf ⊢
  rcases zD dmapD a i hi with ⟨m,hq,hlt,hcmp,hrow,hdr,htk⟩|⟨hend,hcmp⟩
  ·obtain ⟨m',hq'⟩:=zai (l:=b) (i:=i) (by omega)
   have hrow':=za1 (g:=dmapD) hq'
   simp only [dmapD] at hrow hrow'
   have hcmp':decide ((i:Int)<(b.length:Int))=true:=by rw [← hl];exact hcmp
   have hwi:=zn (i:=i) (by omega)
   have hm:=hla m (List.mem_of_getElem? hq)
   have hm':=hlb m' (List.mem_of_getElem? hq')
   rw [hdr,zdQ hq'] at hf
   have hae:=zuB (P:=Tryz.prog) (t:=121) (s:=9) (b:=4) (a:=119) (e:=4) (by simp only [go_sem]) (by simp only [go_sem]) (by simp only [go_sem]) (by simp only [go_sem]) (by simp only [go_sem]) (by simp only [go_sem]) (by simp only [go_sem]) (by kernel_rfl) hm hm'
   have ht1:List.take 64 ((m.bits.map D.bool).map AV.d)=(m.bits.map D.bool).map AV.d:=List.take_of_length_le (by simp [hm])
   have ht2:List.take 64 ((m'.bits.map D.bool).map AV.d)=(m'.bits.map D.bool).map AV.d:=List.take_of_length_le (by simp [hm'])
   (have tk:=zb Tryz.prog);repeat' (first|((first|(refine sa ?_;intro K hK)|refine sb ?_);simp only [go_sem,simprocAttr,hcmp,hcmp',hrow,hrow',ht1,ht2,hae,hm,hm',Int.toNat_natCast,Tryz.results29])|refine zae (fun K hK=>?_)|refine sc ?_|refine zar rfl (fun hc=>?_) (fun hc=>?_)|(refine hK _ ?_;clear hK K)|with_reducible refine And.intro ?_ ?_|(refine (show zaX _ _=true from ?_);kernel_rfl)|omega|assumption|clear hK K)
   ·rw [hf]
    simp only [Bool.not_eq_true',decide_eq_false_iff_not] at hc
    rw [decide_eq_false]
    simp only [List.cons.injEq]
    exact fun h=>hc h.1
   ·simp only [Bool.not_eq_false',decide_eq_true_eq] at hc
    refine ⟨⟨i+1,by omega,?_⟩,lew,by simp;omega⟩
    rw [hf,hc]
    simp
  ·refine' zc hcmp
   rw [hf,List.drop_of_length_le (by omega),List.drop_of_length_le (by omega)]
   rfl
 ·have hb0:((a.length:Int) !=(b.length:Int))=true:=by rw [bne_iff_ne];omega
  refine' zc hb0
  rw [decide_eq_false (fun h=>hl (by rw [h]))]
@[go_sem] noncomputable def zi8:Ent Tryz.prog 29:= .m2 (slT 66 dmapD zfe) (slT 66 dmapD zfe) zlU
open Go Go.Proofs
theorem zwA (a b:Img):(decide (a.disk=b.disk)&&(a.geom.guest==b.geom.guest&&a.geom.host==b.geom.host)&&(a.jour.seq==b.jour.seq&&a.jour.pos==b.jour.pos)&&decide (a.maps=b.maps)&&(a.broken==b.broken))=decide (a=b):=by
 obtain ⟨d,⟨g,h⟩,⟨s,p⟩,m,br⟩:=a
 obtain ⟨d',⟨g',h'⟩,⟨s',p'⟩,m',br'⟩:=b
 rw [Bool.eq_iff_iff]
 simp only [Bool.and_eq_true,beq_iff_eq,decide_eq_true_eq,Img.mk.injEq,Geom.mk.injEq,Jour.mk.injEq]
 constructor
 ·rintro ⟨⟨⟨⟨h1,h2⟩,h3⟩,h4⟩,h5⟩;exact ⟨h1,h2,h3,h4,h5⟩
 ·rintro ⟨h1,h2,h3,h4,h5⟩;exact ⟨⟨⟨⟨h1,h2⟩,h3⟩,h4⟩,h5⟩
theorem zqk (a b:Img) (hp:ImgOk a∧ImgOk b):AC 10 [imgA a,imgA b] (.d (.bool (decide (a=b)))):=by
 obtain ⟨ha,hb⟩:=hp
 refine fbod Tryz.func10 Tryz.ntmps10 (fun base=>?_)
 have h1:=ha.disk
 have h2:=hb.disk
 have h3:=ha.maps
 have h4:=hb.maps
 have h5:=ha.bits
 have h6:=hb.bits
 refine' walkW fx (za zna <| za zi8 <| zb _)
 rw [zwA]
@[go_sem] noncomputable def zbm:Ent Tryz.prog 10:= .m2 zaO zaO zqk
def mset (g:Nat) (m:Dmap):Dmap:= { m with bits:=m.bits.set g true }
def cmark (x:Img) (guest:Int):Img:=if guest<0∨64≤guest then x else { x with maps:=x.maps.map (mset guest.toNat) }
theorem zpb (m:Dmap) (g:Nat):(dmapD m).set (2+g) (.bool true)=dmapD (mset g m):=by
 rw [Nat.add_comm]
 simp [dmapD,mset,List.map_set]
theorem zuC {x:Img} (h:ImgOk x) (g:Int):ImgOk (cmark x g):=by
 unfold cmark
 split
 ·exact h
 ·refine ⟨h.disk,by simp only [List.length_map];exact h.maps,fun m hm=>?_,fun m hm=>?_⟩
  ·obtain ⟨m0,h0,rfl⟩:=List.mem_map.1 hm
   exact h.names m0 h0
  ·obtain ⟨m0,h0,rfl⟩:=List.mem_map.1 hm
   simp [mset,h.bits m0 h0]
theorem zql (x:Img) (guest:Int) (hp:ImgOk x∧x.maps.length≤1000000):AC 125 [imgA x,.d (.int .i64 guest)] (imgA (cmark x guest)):=by
 obtain ⟨h,h2⟩:=hp
 refine fbod Tryz.func125 Tryz.ntmps125 (fun base=>?_)
 by_cases hg:guest<0∨64≤guest
 ·have hdec:(decide (guest<0)||decide (64≤guest))=true:=by simpa using hg
  refine' zc hdec
  rw [cmark,if_pos hg]
 ·have hdec:(decide (guest<0)||decide (64≤guest))=false:=by simpa using hg
  obtain ⟨g,rfl⟩:∃g:Nat,guest=g:=⟨guest.toNat,by omega⟩
  have hg2:g<64:=by omega
  refine' zc hdec
  obtain ⟨n,hn⟩:∃n,n=x.maps.length:=⟨_,rfl⟩
  refine zo (fun q: { i:Nat // i≤x.maps.length } =>⟨[(1,true,.d (.int .i64 g)),(2,true,.vp 0 0),(4,true,.vp 1 0),(5,true,.osl 2 66 x.maps.length 0 x.maps.length),(6,true,.d (.int .i64 q.1))],[(2,.arr 66 (((x.maps.take q.1).map (mset g)++x.maps.drop q.1).map dmapD)),(1,.var [.d (.str []),.nils 2,.d (.int .i64 0),.d (.bool false),.nils 1,.d (.int .i64 0),.d (.int .i64 0),.d (.int .u64 0),.d (.int .i64 0),.nils 66,.d (.bool false)]),(0,.var [.d (.str x.disk.data),.d (.sl 2 (x.disk.cache.map putD)),.d (.int .i64 x.disk.fuse),.d (.bool x.disk.off),.d (.sl 1 (x.disk.bad.map intD)),.d (.int .i64 x.geom.guest),.d (.int .i64 x.geom.host),.d (.int .u64 x.jour.seq),.d (.int .i64 x.jour.pos),.d (.sl 66 (x.maps.map dmapD)),.d (.bool x.broken)])],some []⟩) (fun q=>x.maps.length - q.1) ⟨0,Nat.zero_le _⟩ le1 (fun q=>?_)
  obtain ⟨i,hi⟩:=q
  simp only
  have hL:((x.maps.take i).map (mset g)++x.maps.drop i).length=x.maps.length:=by simp;omega
  rcases Nat.lt_or_ge i x.maps.length with hlt|hge
  ·obtain ⟨m,hq⟩:=zai hlt
   have hcmp:decide ((i:Int)<(x.maps.length:Int))=true:=decide_eq_true (by omega)
   have hwi:=zn (i:=i) (by omega)
   have hL1:((x.maps.take i).map (mset g)).length=i:=by simp;omega
   have hat:((x.maps.take i).map (mset g)++x.maps.drop i)[i]?=some m:=by rw [List.getElem?_append_right (by omega),hL1,Nat.sub_self,List.getElem?_drop,Nat.add_zero,hq]
   have hrow:=za1 (g:=dmapD) hat
   have hset:((x.maps.take i).map (mset g)++x.maps.drop i).set i (mset g m)=(x.maps.take (i+1)).map (mset g)++x.maps.drop (i+1):=by
    rw [List.set_append,if_neg (by omega),hL1,Nat.sub_self,zdQ hq,zcz hq,List.map_append,List.append_assoc]
    rfl
   refine' zc (zr hcmp hL hrow)
   have hnew:(((x.maps.take i).map (mset g)++x.maps.drop i).map dmapD).set i ((dmapD m).set (2+g*1) (.bool true))=((x.maps.take (i+1)).map (mset g)++x.maps.drop (i+1)).map dmapD:=by
    rw [Nat.mul_one,zpb,← List.map_set,hset]
   exact ⟨⟨i+1,by omega⟩,by simp only [AS.le,leT,leH,zf,AsgK,AV.le,AV.leL,AObj.le,inH,idsT,idsH,AV.ids,AV.idsL,AV.idsR,AObj.ids,lk,hget,go_sem,aeq,aeq.aeqF,simprocAttr,hwi,hnew],by simp;omega⟩
  ·have hcmp:decide ((i:Int)<(x.maps.length:Int))=false:=decide_eq_false (by omega)
   refine' zc (zk hcmp hL)
   rw [cmark,if_neg hg,show i=x.maps.length by omega,List.take_length,List.drop_length,List.append_nil,List.take_of_length_le (by simp)]
   rfl
@[go_sem] noncomputable def zab:Ent Tryz.prog 125:= .m2 zaO (intT .i64) zql
theorem bneP {a b:Int} (h:(a !=b)=true):a≠b:=bne_iff_ne.1 h
theorem bneN {a b:Int} (h:(a !=b)=false):¬a≠b:=fun h2=>h2 (bne_eq_false_iff_eq.1 h)
theorem beqP {a b:Int} (h:(a==b)=true):a=b:=beq_iff_eq.1 h
theorem beqN {a b:Int} (h:(a==b)=false):¬a=b:=beq_eq_false_iff_ne.1 h
@[go_sem] theorem p0_fold:Plan.mk [] []=p0:=rfl
def zch (d:Disk) (k:Int):Txt×Int:=
 if (dread d (96+2*k)).2≠0 then ([],(dread d (96+2*k)).2)
 else if (dread d (96+2*k+1)).2≠0 then ([],(dread d (96+2*k+1)).2)
 else ((dread d (96+2*k)).1++(dread d (96+2*k+1)).1,0)
theorem zkz (d:Disk) (k:Int) (hp:DiskF d∧zV k=true):AC 111 [diskA d,.d (.int .i64 k)] (.tup [.d (.str (zch d k).1),.d (.int .i64 (zch d k).2)]):=by
 obtain ⟨h,hk⟩:=hp
 refine fbod Tryz.func111 Tryz.ntmps111 (fun base=>?_)
 have h1:=h.ok
 have h2:=h.puts
 have hk2:=hostOk_iff.1 hk
 have hw:IntKind.i64.wrap (96+2*k+1)=96+2*k+1:=ze (by omega) (by omega)
 have hl1:=zdV (at_:=96+2*k) h2
 have hl2:=zdV (at_:=96+2*k+1) h2
 refine' walkW hw (za z8 <| za zcj <| zb _)
 ·rw [zch,if_pos (bneP hc)]
 ·rename_i hc0
  rw [zch,if_neg (bneN hc0),if_pos (bneP hc)]
 ·rename_i hc0
  rw [zch,if_neg (bneN hc0),if_neg (bneN hc)]
@[go_sem] noncomputable def ziq:Ent Tryz.prog 111:= .m2 zA (intT .i64) zkz
theorem zfF {d:Disk} {p:Plan} {l1 g:Int} (h:(elook d p l1 g).1.kind=1):zV (elook d p l1 g).1.loc=true:=by
 have hk:∀t i,(eget d p t i).1.kind=1→zV (eget d p t i).1.loc=true:=by
  intro t i hk
  by_cases he:(eget d p t i).2=0
  ·have:=(zkw he).1
   unfold entOk at this
   rw [if_pos hk] at this
   exact this
  ·exfalso
   unfold eget at hk he
   split at hk
   ·cases hk
   ·rename_i h0
    rw [if_neg h0] at he
    split at hk
    ·cases hk
    ·rename_i h2
     rw [if_neg h2] at he
     unfold entT at hk he
     split at hk
     ·cases hk
     ·rename_i h1
      rw [if_neg h1] at he
      exact he rfl
 unfold elook at h ⊢
 split at h
 ·cases h
 split at h
 ·cases h
 split at h
 ·cases h
 split at h
 ·cases h
 rename_i h1 h2 h3 h4
 rw [if_neg h1,if_neg h2,if_neg h3,if_neg h4]
 exact hk _ _ h
def cread (d:Disk) (l1 guest:Int):Txt×Int:=
 if (elook d p0 l1 guest).2≠0 then ([],(elook d p0 l1 guest).2) else if (elook d p0 l1 guest).1.kind=1 then zch d (elook d p0 l1 guest).1.loc else (List.replicate 128 0,0)
theorem zqm (d:Disk) (l1 guest:Int) (h:DiskF d):AC 76 [diskA d,.d (.int .i64 l1),.d (.int .i64 guest)] (.tup [.d (.str (cread d l1 guest).1),.d (.int .i64 (cread d l1 guest).2)]):=by
 refine fbod Tryz.func76 Tryz.ntmps76 (fun base=>?_)
 have hdp:DP d p0:=⟨h,zcc⟩
 have hk1:(elook d p0 l1 guest).1.kind=1→zV (elook d p0 l1 guest).1.loc=true:=zfF
 refine' walkW fx (za zI <| za ziq <| zb _)
 ·rw [cread,if_pos (bneP hc)]
 ·exact hk1 (beqP hc)
 ·rename_i hc0
  rw [cread,if_neg (bneN hc0),if_pos (beqP hc)]
 ·rfl
 ·rename_i hc0
  rw [cread,if_neg (bneN hc0),if_neg (beqN hc)]
  rfl
@[go_sem] noncomputable def zaa:Ent Tryz.prog 76:= .m3 zA (intT .i64) (intT .i64) zqm
def cdone (x:Img) (p:Plan):Img×Int:=
 if (jcommit x.disk x.jour p).2.2≠0 then ({ x with disk:=(jcommit x.disk x.jour p).1,broken:=true },(jcommit x.disk x.jour p).2.2)
 else ({ x with disk:=(jcommit x.disk x.jour p).1,jour:=(jcommit x.disk x.jour p).2.1 },0)
theorem zqn (x:Img) (p:Plan) (hp:ImgOk x∧DiskF x.disk∧pfit p=true∧0≤x.jour.seq∧x.jour.seq<18446744073709551616):AC 131 [imgA x,planA p] (.tup [imgA (cdone x p).1,.d (.int .i64 (cdone x p).2)]):=by
 obtain ⟨h,hd,hf,h0,h1⟩:=hp
 refine fbod Tryz.func131 Tryz.ntmps131 (fun base=>?_)
 refine' walkW fx (za zkr <| zb _)
 ·rw [cdone,if_pos (bneP hc)]
 ·rw [cdone,if_neg (bneN hc)]
@[go_sem] noncomputable def zac:Ent Tryz.prog 131:= .m2 zaO zN zqn
open Go Go.Proofs Go.RowKit Go.ChangeShapes Go.WideShapes
structure ImgW (x:Img):Prop where
 ok:ImgOk x
 seq0:0≤x.jour.seq
 seq1:x.jour.seq≤18446744073709551615
 guest0: -9223372036854775808≤x.geom.guest
 guest1:x.geom.guest≤9223372036854775807
 host0: -9223372036854775808≤x.geom.host
 host1:x.geom.host≤9223372036854775807
 pos0: -9223372036854775808≤x.jour.pos
 pos1:x.jour.pos≤9223372036854775807
def imgD (x:Img):List D:= [.str x.disk.data,.sl 2 (x.disk.cache.map putD),.int .i64 x.disk.fuse,.bool x.disk.off,.sl 1 (x.disk.bad.map intD),.int .i64 x.geom.guest,.int .i64 x.geom.host,.int .u64 x.jour.seq,.int .i64 x.jour.pos,.sl 66 (x.maps.map dmapD),.bool x.broken]
theorem zfl {n:Nat} {x:List D} (h:DTy Tryz.prog (n+1) 3 x):∃a:Int,x= [.int .i64 a]∧ -9223372036854775808≤a∧a≤9223372036854775807:=by
 unfold DTy at h
 simp only [ty3] at h
 obtain ⟨a,rfl,h1,h2⟩:=h
 exact ⟨a,rfl,h1,h2⟩
theorem zkD {n:Nat} {x:List D} (h:DTy Tryz.prog (n+1) 9 x):∃s:Txt,x= [.str s]∧s.length≤9223372036854775807:=by
 unfold DTy at h
 simp only [ty9] at h
 exact h
theorem zgt {n:Nat} {x:List D} (h:DTy Tryz.prog (n+1) 4 x):∃b:Bool,x= [.bool b]:=by
 unfold DTy at h
 simp only [ty4] at h
 exact h
theorem zu1 {n:Nat} {x:List D} (h:DTy Tryz.prog (n+2) 23 x):∃l:List Int,l.length≤9223372036854775807∧x= [.sl 1 (l.map intD)]:=by
 unfold DTy at h
 simp only [ty23] at h
 obtain ⟨rows,rfl,hl,hr⟩:=h
 obtain ⟨l,rfl⟩:=zgi (e:=intD) (fun r h'=>(zfl (hr r h')).imp fun s h=>h.1)
 exact ⟨l,by simpa using hl,by rw [ty3]⟩
theorem zwP {n:Nat} {x:List D} (h:DTy Tryz.prog (n+2) 142 x):∃q:PutR,x=putD q:=by
 unfold DTy at h
 simp only [ty142,DTy.fields] at h
 obtain ⟨a1,b1,rfl,g1,a2,b2,rfl,g2,rfl⟩:=h
 obtain ⟨a,rfl,_⟩:=zfl g1
 obtain ⟨s,rfl,_⟩:=zkD g2
 exact ⟨(a,s),rfl⟩
theorem zu2 {n:Nat} {x:List D} (h:DTy Tryz.prog (n+3) 22 x):∃l:List PutR,l.length≤9223372036854775807∧x= [.sl 2 (l.map putD)]:=by
 unfold DTy at h
 simp only [ty22] at h
 obtain ⟨rows,rfl,hl,hr⟩:=h
 obtain ⟨l,rfl⟩:=zgi (e:=putD) (fun r h'=>zwP (hr r h'))
 exact ⟨l,by simpa using hl,by rw [ty142]⟩
theorem zu3 {n:Nat} {x:List D} (h:DTy Tryz.prog (n+4) 25 x):∃d:Disk,DiskOk d∧x= [.str d.data,.sl 2 (d.cache.map putD),.int .i64 d.fuse,.bool d.off,.sl 1 (d.bad.map intD)]:=by
 unfold DTy at h
 simp only [ty25,DTy.fields] at h
 obtain ⟨a1,b1,rfl,g1,a2,b2,rfl,g2,a3,b3,rfl,g3,a4,b4,rfl,g4,a5,b5,rfl,g5,rfl⟩:=h
 obtain ⟨s,rfl,q1⟩:=zkD g1
 obtain ⟨l,q2,rfl⟩:=zu2 g2
 obtain ⟨f,rfl,q3,q4⟩:=zfl g3
 obtain ⟨o,rfl⟩:=zgt g4
 obtain ⟨m,q5,rfl⟩:=zu1 g5
 exact ⟨⟨s,l,f,o,m⟩,⟨q1,q2,q5,q3,q4⟩,rfl⟩
theorem zjI:∀ {parts:List (List D)},(∀p∈parts,∃b:Bool,p= [.bool b])→∃l:List Bool,parts.flatten=l.map D.bool∧l.length=parts.length
 | [],_=>⟨[],rfl,rfl⟩
 |p::r,h=>by
  obtain ⟨b,rfl⟩:=h p (by simp)
  obtain ⟨l,h1,h2⟩:=zjI (parts:=r) (fun q hq=>h q (by simp [hq]))
  exact ⟨b::l,by simp [h1],by simp [h2]⟩
theorem zpm {n:Nat} {x:List D} (h:DTy Tryz.prog (n+3) 121 x):∃m:Dmap,(m.name.length≤9223372036854775807∧m.bits.length=64)∧x=dmapD m:=by
 unfold DTy at h
 simp only [ty121,DTy.fields] at h
 obtain ⟨a1,b1,rfl,g1,a2,b2,rfl,g2,a3,b3,rfl,g3,rfl⟩:=h
 obtain ⟨s,rfl,q1⟩:=zkD g1
 obtain ⟨u,rfl⟩:=zgt g2
 unfold DTy at g3
 simp only [ty119] at g3
 obtain ⟨parts,rfl,hl,hp⟩:=g3
 obtain ⟨l,h1,h2⟩:=zjI (fun p h'=>zgt (hp p h'))
 exact ⟨⟨s,u,l⟩,⟨q1,by rw [h2,hl]⟩,by simp [dmapD,h1]⟩
theorem zsQ {n:Nat} {x:List D} (h:DTy Tryz.prog (n+4) 31 x):∃l:List Dmap,l.length≤9223372036854775807∧(∀m∈l,m.name.length≤9223372036854775807∧m.bits.length=64)∧x= [.sl 66 (l.map dmapD)]:=by
 unfold DTy at h
 simp only [ty31] at h
 obtain ⟨rows,rfl,hl,hr⟩:=h
 obtain ⟨l,rfl⟩:=zgi (e:=dmapD) (fun r h'=>(zpm (hr r h')).imp fun s h=>h.2)
 refine ⟨l,by simpa using hl,fun m hm=>?_,by rw [ty121]⟩
 obtain ⟨m',h1,h2⟩:=zpm (hr (dmapD m) (List.mem_map_of_mem hm))
 rw [zfe _ _ h2]
 exact h1
theorem znU {n:Nat} {x:List D} (h:DTy Tryz.prog (n+5) 33 x):∃X:Img,ImgW X∧x=imgD X:=by
 unfold DTy at h
 simp only [ty33,DTy.fields] at h
 obtain ⟨a1,b1,rfl,g1,a2,b2,rfl,g2,a3,b3,rfl,g3,a4,b4,rfl,g4,a5,b5,rfl,g5,rfl⟩:=h
 obtain ⟨d,q1,rfl⟩:=zu3 g1
 unfold DTy at g2 g3
 simp only [ty27,DTy.fields] at g2
 simp only [ty30,DTy.fields] at g3
 obtain ⟨c1,e1,rfl,k1,c2,e2,rfl,k2,rfl⟩:=g2
 obtain ⟨c3,e3,rfl,k3,c4,e4,rfl,k4,rfl⟩:=g3
 obtain ⟨gu,rfl,r1,r2⟩:=zfl k1
 obtain ⟨ho,rfl,r3,r4⟩:=zfl k2
 unfold DTy at k3
 simp only [ty28] at k3
 obtain ⟨sq,rfl,r5,r6⟩:=k3
 obtain ⟨po,rfl,r7,r8⟩:=zfl k4
 obtain ⟨l,q2,q3,rfl⟩:=zsQ g4
 obtain ⟨br,rfl⟩:=zgt g5
 exact ⟨⟨d,⟨gu,ho⟩,⟨sq,po⟩,l,br⟩,⟨⟨q1,q2,fun m hm=>(q3 m hm).1,fun m hm=>(q3 m hm).2⟩,r5,r6,r1,r2,r3,r4,r7,r8⟩,rfl⟩
theorem znV (X:Img):argAV Tryz.prog 33 (imgD X)=imgA X:=by simp only [argAV,ty33];rfl
end Go.Aw
