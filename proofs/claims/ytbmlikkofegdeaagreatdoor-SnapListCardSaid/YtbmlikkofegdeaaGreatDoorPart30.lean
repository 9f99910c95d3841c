/-
  Parts of the proof: CowC, CowD (short names; the readable texts lie in the repo, under wip).
-/
import Derived.Test.YtbmlikkofegdeaaGreatDoorPart29
import Derived.Test.YtbmlikkofegdeaaGreatDoorPart17
set_option maxRecDepth 100000
set_option maxHeartbeats 2000000
set_option linter.unusedSimpArgs false
set_option linter.unusedVariables false
namespace Go.Aw
open Go Go.Proofs
theorem zu9 (a b:Img):(decide (a.disk=b.disk)&&(a.geom.guest==b.geom.guest&&a.geom.host==b.geom.host)&&(a.jour.seq==b.jour.seq&&a.jour.pos==b.jour.pos)&&decide (a.maps=b.maps)&&(a.broken==b.broken))=decide (a=b):=by
 obtain ⟨d,⟨g,h⟩,⟨s,p⟩,m,br⟩:=a
 obtain ⟨d',⟨g',h'⟩,⟨s',p'⟩,m',br'⟩:=b
 rw [Bool.eq_iff_iff]
 simp only [Bool.and_eq_true,beq_iff_eq,decide_eq_true_eq,Img.mk.injEq,Geom.mk.injEq,Jour.mk.injEq]
 constructor
 ·rintro ⟨⟨⟨⟨h1,h2⟩,h3⟩,h4⟩,h5⟩;exact ⟨h1,h2,h3,h4,h5⟩
 ·rintro ⟨h1,h2,h3,h4,h5⟩;exact ⟨⟨⟨⟨h1,h2⟩,h3⟩,h4⟩,h5⟩
theorem zpb (a b:Img) (hp:ImgOk a∧ImgOk b):AC 19 [imgA a,imgA b] (.d (.bool (decide (a=b)))):=by
 obtain ⟨ha,hb⟩:=hp
 refine fbod Tryz.func19 Tryz.ntmps19 (fun base=>?_)
 have h1:=ha.disk
 have h2:=hb.disk
 have h3:=ha.maps
 have h4:=hb.maps
 have h5:=ha.bits
 have h6:=hb.bits
 refine' walkW fx (za zmc <| za zio <| zb _)
 rw [zu9]
@[go_sem] noncomputable def zgN:Ent Tryz.prog 19:= .m2 zbD zbD zpb
def mset (g:Nat) (m:Dmap):Dmap:= { m with bits:=m.bits.set g true }
def cmark (x:Img) (guest:Int):Img:=if guest<0∨64≤guest then x else { x with maps:=x.maps.map (mset guest.toNat) }
theorem zn7 (m:Dmap) (g:Nat):(dmapD m).set (2+g) (.bool true)=dmapD (mset g m):=by
 rw [Nat.add_comm]
 simp [dmapD,mset,List.map_set]
theorem zts {x:Img} (h:ImgOk x) (g:Int):ImgOk (cmark x g):=by
 unfold cmark
 split
 ·exact h
 ·refine ⟨h.disk,by simp only [List.length_map];exact h.maps,fun m hm=>?_,fun m hm=>?_⟩
  ·obtain ⟨m0,h0,rfl⟩:=List.mem_map.1 hm
   exact h.names m0 h0
  ·obtain ⟨m0,h0,rfl⟩:=List.mem_map.1 hm
   simp [mset,h.bits m0 h0]
theorem zpc (x:Img) (guest:Int) (hp:ImgOk x∧x.maps.length≤1000000):AC 60 [imgA x,.d (.int .i64 guest)] (imgA (cmark x guest)):=by
 obtain ⟨h,h2⟩:=hp
 refine fbod Tryz.func60 Tryz.ntmps60 (fun base=>?_)
 by_cases hg:guest<0∨64≤guest
 ·have hdec:(decide (guest<0)||decide (64≤guest))=true:=by simpa using hg
  refine' zc hdec
  rw [cmark,if_pos hg]
 ·have hdec:(decide (guest<0)||decide (64≤guest))=false:=by simpa using hg
  obtain ⟨g,rfl⟩:∃g:Nat,guest=g:=⟨guest.toNat,by omega⟩
  have hg2:g<64:=by omega
  refine' zc hdec
  obtain ⟨n,hn⟩:∃n,n=x.maps.length:=⟨_,rfl⟩
  refine zk (fun q: { i:Nat // i≤x.maps.length } =>⟨[(1,true,.d (.int .i64 g)),(2,true,.vp 0 0),(4,true,.vp 1 0),(5,true,.osl 2 66 x.maps.length 0 x.maps.length),(6,true,.d (.int .i64 q.1))],[(2,.arr 66 (((x.maps.take q.1).map (mset g)++x.maps.drop q.1).map dmapD)),(1,.var [.d (.str []),.nils 2,.d (.int .i64 0),.d (.bool false),.nils 1,.d (.int .i64 0),.d (.int .i64 0),.d (.int .u64 0),.d (.int .i64 0),.nils 66,.d (.bool false)]),(0,.var [.d (.str x.disk.data),.d (.sl 2 (x.disk.cache.map putD)),.d (.int .i64 x.disk.fuse),.d (.bool x.disk.off),.d (.sl 1 (x.disk.bad.map intD)),.d (.int .i64 x.geom.guest),.d (.int .i64 x.geom.host),.d (.int .u64 x.jour.seq),.d (.int .i64 x.jour.pos),.d (.sl 66 (x.maps.map dmapD)),.d (.bool x.broken)])],some []⟩) (fun q=>x.maps.length - q.1) ⟨0,Nat.zero_le _⟩ le1 (fun q=>?_)
  obtain ⟨i,hi⟩:=q
  simp only
  have hL:((x.maps.take i).map (mset g)++x.maps.drop i).length=x.maps.length:=by simp;omega
  rcases Nat.lt_or_ge i x.maps.length with hlt|hge
  ·obtain ⟨m,hq⟩:=zam hlt
   have hcmp:decide ((i:Int)<(x.maps.length:Int))=true:=decide_eq_true (by omega)
   have hwi:=zn (i:=i) (by omega)
   have hL1:((x.maps.take i).map (mset g)).length=i:=by simp;omega
   have hat:((x.maps.take i).map (mset g)++x.maps.drop i)[i]?=some m:=by rw [List.getElem?_append_right (by omega),hL1,Nat.sub_self,List.getElem?_drop,Nat.add_zero,hq]
   have hrow:=zbk (g:=dmapD) hat
   have hset:((x.maps.take i).map (mset g)++x.maps.drop i).set i (mset g m)=(x.maps.take (i+1)).map (mset g)++x.maps.drop (i+1):=by
    rw [List.set_append,if_neg (by omega),hL1,Nat.sub_self,zcF hq,za9 hq,List.map_append,List.append_assoc]
    rfl
   refine' zc (zA hcmp hL hrow)
   have hnew:(((x.maps.take i).map (mset g)++x.maps.drop i).map dmapD).set i ((dmapD m).set (2+g*1) (.bool true))=((x.maps.take (i+1)).map (mset g)++x.maps.drop (i+1)).map dmapD:=by
    rw [Nat.mul_one,zn7,← List.map_set,hset]
   exact ⟨⟨i+1,by omega⟩,by simp only [AS.le,leT,leH,zj,AsgK,AV.le,AV.leL,AObj.le,inH,idsT,idsH,AV.ids,AV.idsL,AV.idsR,AObj.ids,lk,hget,go_sem,aeq,aeq.aeqF,simprocAttr,hwi,hnew],by simp;omega⟩
  ·have hcmp:decide ((i:Int)<(x.maps.length:Int))=false:=decide_eq_false (by omega)
   refine' zc (zp hcmp hL)
   rw [cmark,if_neg hg,show i=x.maps.length by omega,List.take_length,List.drop_length,List.append_nil,List.take_of_length_le (by simp)]
   rfl
@[go_sem] noncomputable def zv:Ent Tryz.prog 60:= .m2 zbD (intT .i64) zpc
theorem bneP {a b:Int} (h:(a !=b)=true):a≠b:=bne_iff_ne.1 h
theorem bneN {a b:Int} (h:(a !=b)=false):¬a≠b:=fun h2=>h2 (bne_eq_false_iff_eq.1 h)
theorem beqP {a b:Int} (h:(a==b)=true):a=b:=beq_iff_eq.1 h
theorem beqN {a b:Int} (h:(a==b)=false):¬a=b:=beq_eq_false_iff_ne.1 h
@[go_sem] theorem p0_fold:Plan.mk [] []=p0:=rfl
def zbK (d:Disk) (k:Int):Txt×Int:=
 if (dread d (96+2*k)).2≠0 then ([],(dread d (96+2*k)).2)
 else if (dread d (96+2*k+1)).2≠0 then ([],(dread d (96+2*k+1)).2)
 else ((dread d (96+2*k)).1++(dread d (96+2*k+1)).1,0)
theorem zjP (d:Disk) (k:Int) (hp:DiskF d∧zH k=true):AC 108 [diskA d,.d (.int .i64 k)] (.tup [.d (.str (zbK d k).1),.d (.int .i64 (zbK d k).2)]):=by
 obtain ⟨h,hk⟩:=hp
 refine fbod Tryz.func108 Tryz.ntmps108 (fun base=>?_)
 have h1:=h.ok
 have h2:=h.puts
 have hk2:=hostOk_iff.1 hk
 have hw:IntKind.i64.wrap (96+2*k+1)=96+2*k+1:=ze (by omega) (by omega)
 have hl1:=zdI (at_:=96+2*k) h2
 have hl2:=zdI (at_:=96+2*k+1) h2
 refine' walkW hw (za zP <| za zbM <| zb _)
 ·rw [zbK,if_pos (bneP hc)]
 ·rename_i hc0
  rw [zbK,if_neg (bneN hc0),if_pos (bneP hc)]
 ·rename_i hc0
  rw [zbK,if_neg (bneN hc0),if_neg (bneN hc)]
@[go_sem] noncomputable def zhS:Ent Tryz.prog 108:= .m2 zq (intT .i64) zjP
theorem zgp {d:Disk} {p:Plan} {l1 g:Int} (h:(elook d p l1 g).1.kind=1):zH (elook d p l1 g).1.loc=true:=by
 have hk:∀t i,(eget d p t i).1.kind=1→zH (eget d p t i).1.loc=true:=by
  intro t i hk
  by_cases he:(eget d p t i).2=0
  ·have:=(zre he).1
   unfold entOk at this
   rw [if_pos hk] at this
   exact this
  ·exfalso
   unfold eget at hk he
   split at hk
   ·cases hk
   ·rename_i h0
    rw [if_neg h0] at he
    split at hk
    ·cases hk
    ·rename_i h2
     rw [if_neg h2] at he
     unfold entT at hk he
     split at hk
     ·cases hk
     ·rename_i h1
      rw [if_neg h1] at he
      exact he rfl
 unfold elook at h ⊢
 split at h
 ·cases h
 split at h
 ·cases h
 split at h
 ·cases h
 split at h
 ·cases h
 rename_i h1 h2 h3 h4
 rw [if_neg h1,if_neg h2,if_neg h3,if_neg h4]
 exact hk _ _ h
def cread (d:Disk) (l1 guest:Int):Txt×Int:=
 if (elook d p0 l1 guest).2≠0 then ([],(elook d p0 l1 guest).2) else if (elook d p0 l1 guest).1.kind=1 then zbK d (elook d p0 l1 guest).1.loc else (List.replicate 128 0,0)
theorem zpd (d:Disk) (l1 guest:Int) (h:DiskF d):AC 31 [diskA d,.d (.int .i64 l1),.d (.int .i64 guest)] (.tup [.d (.str (cread d l1 guest).1),.d (.int .i64 (cread d l1 guest).2)]):=by
 refine fbod Tryz.func31 Tryz.ntmps31 (fun base=>?_)
 have hdp:DP d p0:=⟨h,zcw⟩
 have hk1:(elook d p0 l1 guest).1.kind=1→zH (elook d p0 l1 guest).1.loc=true:=zgp
 refine' walkW fx (za zai <| za zhS <| zb _)
 ·rw [cread,if_pos (bneP hc)]
 ·exact hk1 (beqP hc)
 ·rename_i hc0
  rw [cread,if_neg (bneN hc0),if_pos (beqP hc)]
 ·rfl
 ·rename_i hc0
  rw [cread,if_neg (bneN hc0),if_neg (beqN hc)]
  rfl
@[go_sem] noncomputable def zr:Ent Tryz.prog 31:= .m3 zq (intT .i64) (intT .i64) zpd
def cdone (x:Img) (p:Plan):Img×Int:=
 if (jcommit x.disk x.jour p).2.2≠0 then ({ x with disk:=(jcommit x.disk x.jour p).1,broken:=true },(jcommit x.disk x.jour p).2.2)
 else ({ x with disk:=(jcommit x.disk x.jour p).1,jour:=(jcommit x.disk x.jour p).2.1 },0)
theorem zpe (x:Img) (p:Plan) (hp:ImgOk x∧DiskF x.disk∧pfit p=true∧0≤x.jour.seq∧x.jour.seq<18446744073709551616):AC 53 [imgA x,planA p] (.tup [imgA (cdone x p).1,.d (.int .i64 (cdone x p).2)]):=by
 obtain ⟨h,hd,hf,h0,h1⟩:=hp
 refine fbod Tryz.func53 Tryz.ntmps53 (fun base=>?_)
 refine' walkW fx (za zjI <| zb _)
 ·rw [cdone,if_pos (bneP hc)]
 ·rw [cdone,if_neg (bneN hc)]
@[go_sem] noncomputable def zo:Ent Tryz.prog 53:= .m2 zbD zw zpe
open Go Go.Proofs
def imgV (x:Img):List AV:= [.d (.str x.disk.data),.d (.sl 2 (x.disk.cache.map putD)),.d (.int .i64 x.disk.fuse),.d (.bool x.disk.off),.d (.sl 1 (x.disk.bad.map intD)),.d (.int .i64 x.geom.guest),.d (.int .i64 x.geom.host),.d (.int .u64 x.jour.seq),.d (.int .i64 x.jour.pos),.d (.sl 66 (x.maps.map dmapD)),.d (.bool x.broken)]
attribute [go_sem] imgV
def img0:List AV:= [.d (.str []),.nils 2,.d (.int .i64 0),.d (.bool false),.nils 1,.d (.int .i64 0),.d (.int .i64 0),.d (.int .u64 0),.d (.int .i64 0),.nils 66,.d (.bool false)]
attribute [go_sem] img0
def wdisk (x:Img) (d:Disk):Img:= { x with disk:=d }
def cputT (b:Txt) (off:Int) (s:Txt) (i:Int):Txt:=(overS b (max off (i*64) - i*64) ((s.take (min (off+s.length) ((i+1)*64) - off).toNat).drop (max off (i*64) - off).toNat)).1
def cput1 (d:Disk) (k off:Int) (s:Txt) (i:Int):Disk×Int:=
 if min (off+s.length) ((i+1)*64)≤max off (i*64) then (d,0)
 else if (dread d (96+2*k+i)).2≠0 then (d,(dread d (96+2*k+i)).2)
 else zT d (96+2*k+i) (cputT (dread d (96+2*k+i)).1 off s i)
def zgq (k off:Int) (s:Txt):Nat→Int→Disk→Disk×Int
 |0,_,d=>(d,0)
 |m+1,i,d=>if (cput1 d k off s i).2≠0 then cput1 d k off s i else zgq k off s m (i+1) (cput1 d k off s i).1
def zgO (d:Disk) (k off:Int) (s:Txt):Disk×Int:=zgq k off s 2 0 d
theorem DiskF.cput1 {d:Disk} (h:DiskF d) (k off:Int) (s:Txt) (i:Int):DiskF (cput1 d k off s i).1:=by
 unfold Aw.cput1
 split
 ·exact h
 split
 ·exact h
 ·exact h.write _ _
theorem zmF (x:Img) (k off:Int) (s:Txt) (hp:ImgOk x∧DiskF x.disk∧zH k=true∧0≤off∧off+s.length≤128):AC 98 [imgA x,.d (.int .i64 k),.d (.int .i64 off),.d (.str s)] (.tup [imgA (wdisk x (zgO x.disk k off s).1),.d (.int .i64 (zgO x.disk k off s).2)]):=by
 obtain ⟨h,hd,hk,h0,h1⟩:=hp
 refine fbod Tryz.func98 Tryz.ntmps98 (fun base=>?_)
 have hk2:=hostOk_iff.1 hk
 refine' walkR fx (za zP <| za zbM <| za zB <| za zZ <| zb _)
 refine zk (fun q: { q:Nat×Disk // q.1≤2∧DiskF q.2∧zgO x.disk k off s=zgq k off s (2 - q.1) q.1 q.2 } =>⟨[(1,true,.d (.int .i64 k)),(2,true,.d (.int .i64 off)),(3,true,.d (.str s)),(4,true,.vp 0 0),(8,true,.vp 1 0),(10,true,.d (.int .i64 q.1.1))],[(1,.var img0),(0,.var (imgV (wdisk x q.1.2)))],some []⟩) (fun q=>2 - q.1.1) ⟨(0,x.disk),by omega,hd,rfl⟩ (by simp only [AS.le,leT,leH,zj,AsgK,AV.le,AV.leL,AObj.le,inH,idsT,idsH,AV.ids,AV.idsL,AV.idsR,AObj.ids,lk,hget,go_sem,aeq,aeq.aeqF,simprocAttr,wdisk]<;>and_intros<;>rfl) (fun q=>?_)
 obtain ⟨⟨i,d⟩,hi,hF,hr⟩:=q
 simp only at hi hF hr ⊢
 have hd1:=hF.ok
 have hd2:=hF.puts
 rcases Nat.lt_or_ge i 2 with hlt|hge
 ·have hcmp:decide ((i:Int)<2)=true:=decide_eq_true (by omega)
  have hwi:=zn (i:=i) (by omega)
  have hw1:IntKind.i64.wrap ((i:Int)*64)=i*64:=ze (by omega) (by omega)
  have hw2:IntKind.i64.wrap (((i+1:Nat):Int)*64)=(i+1)*64:=ze (by omega) (by omega)
  have hw3:IntKind.i64.wrap (off+(s.length:Int))=off+s.length:=ze (by omega) (by omega)
  have hw4:IntKind.i64.wrap (96+2*k+(i:Int))=96+2*k+i:=ze (by omega) (by omega)
  rw [show 2 - i=(2 - (i+1))+1 by omega,zgq] at hr
  obtain ⟨A,hA⟩:∃A,A=max off ((i:Int)*64):=⟨_,rfl⟩
  obtain ⟨B,hB⟩:∃B,B=min (off+(s.length:Int)) (((i:Int)+1)*64):=⟨_,rfl⟩
  have hA1:imax off ((i:Int)*64)=A:=by rw [hA];unfold imax;split<;>omega
  have hB1:imin (off+(s.length:Int)) (((i:Int)+1)*64)=B:=by rw [hB];unfold imin;split<;>omega
  have hc1:cput1 d k off s i=if B≤A then (d,0) else if (dread d (96+2*k+i)).2≠0 then (d,(dread d (96+2*k+i)).2) else zT d (96+2*k+i) (overS (dread d (96+2*k+i)).1 (A - i*64) ((s.take (B - off).toNat).drop (A - off).toNat)).1:=by rw [cput1,cputT,← hA,← hB]
  have hl:=zdI (at_:=96+2*k+i) hd2
  have hFn:=hF.cput1 k off s i
  by_cases hab:B≤A
  ·have hb:decide (B≤A)=true:=decide_eq_true hab
   rw [if_pos hab] at hc1
   refine' walkR (zL hcmp hwi hw1 hw2 hw3 (z8 hA1 hB1 hb @wdisk.eq_1)) (za zP <| za zbM <| za zB <| za zZ <| zb _)
   rw [hc1] at hr
   exact ⟨⟨(i+1,d),by show i+1≤2;omega,hF,hr⟩,by simp only [AS.le,leT,leH,zj,AsgK,AV.le,AV.leL,AObj.le,inH,idsT,idsH,AV.ids,AV.idsL,AV.idsR,AObj.ids,lk,hget,go_sem,aeq,aeq.aeqF,simprocAttr,wdisk],by simp;omega⟩
  ·have hb:decide (B≤A)=false:=decide_eq_false hab
   rw [if_neg hab] at hc1
   have hw5:IntKind.i64.wrap (A - off)=A - off:=ze (by omega) (by omega)
   have hw6:IntKind.i64.wrap (B - off)=B - off:=ze (by omega) (by omega)
   have hw7:IntKind.i64.wrap (A - (i:Int)*64)=A - i*64:=ze (by omega) (by omega)
   have hsl:((s.take (B - off).toNat).drop (A - off).toNat).length≤9223372036854775807:=by simp;omega
   obtain ⟨b,hbb⟩:∃b,b=(overS (dread d (96+2*k+i)).1 (A - i*64) ((s.take (B - off).toNat).drop (A - off).toNat)).1:=⟨_,rfl⟩
   rw [← hbb] at hc1
   refine' walkR (zL hcmp hwi hw1 hw2 hw3 (zL hw4 hw5 hw6 hw7 hA1 (z8 hB1 hb hbb.symm @wdisk.eq_1))) (za zP <| za zbM <| za zB <| za zZ <| zb _)
   ·rw [if_pos (bneP hc)] at hc1
    rw [hr,hc1,if_pos (bneP hc)]
   ·rename_i hc0
    rw [if_neg (bneN hc0)] at hc1
    rw [hr,hc1,if_pos (bneP hc)]
   ·rename_i hc0
    rw [if_neg (bneN hc0)] at hc1
    rw [hc1,if_neg (bneN hc)] at hr
    rw [hc1] at hFn
    exact ⟨⟨(i+1,(zT d (96+2*k+i) b).1),by show i+1≤2;omega,hFn,hr⟩,by simp only [AS.le,leT,leH,zj,AsgK,AV.le,AV.leL,AObj.le,inH,idsT,idsH,AV.ids,AV.idsL,AV.idsR,AObj.ids,lk,hget,go_sem,aeq,aeq.aeqF,simprocAttr,wdisk],by simp;omega⟩
 ·have hcmp:decide ((i:Int)<2)=false:=decide_eq_false (by omega)
  refine' walkR (zp hcmp @wdisk.eq_1) (za zP <| za zbM <| za zB <| za zZ <| zb _)
  rw [hr,show 2 - i=0 by omega]
  rfl
@[go_sem] noncomputable def zah:Ent Tryz.prog 98:= .m4 zbD (intT .i64) (intT .i64) strT zmF
structure ImgF (x:Img):Prop where
 ok:ImgOk x
 disk:DiskF x.disk
 guest:x.geom.guest≤64
 host:x.geom.host≤256
 seq0:0≤x.jour.seq
 seq1:x.jour.seq≤4611686018427387904
 maps:x.maps.length≤1000000
theorem ImgF.wd {x:Img} (h:ImgF x) {d:Disk} (hd:DiskF d):ImgF (wdisk x d):=⟨⟨hd.ok,h.ok.maps,h.ok.names,h.ok.bits⟩,hd,h.guest,h.host,h.seq0,h.seq1,h.maps⟩
theorem ImgF.mark {x:Img} (h:ImgF x) (g:Int):ImgF (cmark x g):=by
 refine ⟨zts h.ok g,?_,?_,?_,?_,?_,?_⟩
 all_goals unfold cmark
 all_goals split
 all_goals first|exact h.disk|exact h.guest|exact h.host|exact h.seq0|exact h.seq1|exact h.maps|skip
 simp only [List.length_map]
 exact h.maps
theorem zk2 {d:Disk} {k:Int} (h:d.cache.all (putOk d)=true) (he:(zbK d k).2=0):(zbK d k).1.length=128:=by
 unfold zbK at he ⊢
 split at he
 ·exact absurd he (by assumption)
 split at he
 ·exact absurd he (by assumption)
 rename_i h1 h2
 rw [if_neg h1,if_neg h2]
 rw [List.length_append,zjJ h (by omega),zjJ h (by omega)]
theorem zk6 {d:Disk} {l1 g:Int} (h:d.cache.all (putOk d)=true) (he:(cread d l1 g).2=0):(cread d l1 g).1.length=128:=by
 unfold cread at he ⊢
 split at he
 ·exact absurd he (by assumption)
 split at he
 ·rename_i h1 h2
  rw [if_neg h1,if_pos h2]
  exact zk2 h he
 ·rename_i h1 h2
  rw [if_neg h1,if_neg h2]
  simp
theorem ztt {d:Disk} {l1 g:Int} (h:d.cache.all (putOk d)=true):(cread d l1 g).1.length≤128:=by
 by_cases he:(cread d l1 g).2=0
 ·rw [zk6 h he];exact Nat.le_refl _
 ·unfold cread at he ⊢
  split
  ·simp
  rename_i h1
  rw [if_neg h1] at he
  split
  ·rename_i h2
   rw [if_pos h2] at he
   unfold zbK at he ⊢
   split
   ·simp
   rename_i h3
   rw [if_neg h3] at he
   split
   ·simp
   rename_i h4
   rw [if_neg h4] at he
   exact absurd rfl he
  ·simp
theorem zpf {d:Disk} {p:Plan} {g:Geom} (h:(rtake d p g).2.2=0):zH (rtake d p g).2.1=true:=by
 unfold rtake at h ⊢
 split at h
 ·rename_i h1;exact absurd h h1
 split at h
 ·rename_i h1;exact absurd h h1
 rename_i h1 h2
 rw [if_neg h1,if_neg h2]
 exact hostOk_iff.2 (ziU d p _ _ (by unfold rfind at h1;omega))
theorem ztu {s t:Txt} {a:Int} (h0:0≤a) (h:a+t.length≤s.length):overS s a t=(s.take a.toNat++t++s.drop (a+t.length).toNat,0):=by
 rw [overS,if_neg (by omega)]
theorem zrk {s t:Txt} {a:Int} (h0:0≤a) (h:a+t.length≤s.length):(overS s a t).1.length=s.length:=by
 rw [ztu h0 h]
 simp
 omega
def zb4 (k:Int) (b:Txt):List (Int×Txt):= [(96+2*k,b.take 64),(96+2*k+1,(b.take 128).drop 64)]
def zea (x:Img) (l1 guest off:Int) (s:Txt):Img×Int:=
 if (rtake x.disk p0 x.geom).2.2≠0 then (x,(rtake x.disk p0 x.geom).2.2)
 else if (cread x.disk l1 guest).2≠0 then (x,(cread x.disk l1 guest).2)
 else if (layL x.disk (zb4 (rtake x.disk p0 x.geom).2.1 (overS (cread x.disk l1 guest).1 off s).1)).2≠0 then
  (wdisk x (layL x.disk (zb4 (rtake x.disk p0 x.geom).2.1 (overS (cread x.disk l1 guest).1 off s).1)).1,(layL x.disk (zb4 (rtake x.disk p0 x.geom).2.1 (overS (cread x.disk l1 guest).1 off s).1)).2)
 else if (ppoint (layL x.disk (zb4 (rtake x.disk p0 x.geom).2.1 (overS (cread x.disk l1 guest).1 off s).1)).1 (rtake x.disk p0 x.geom).1 x.geom guest ⟨1,(rtake x.disk p0 x.geom).2.1⟩).2≠0 then
  (wdisk x (layL x.disk (zb4 (rtake x.disk p0 x.geom).2.1 (overS (cread x.disk l1 guest).1 off s).1)).1,(ppoint (layL x.disk (zb4 (rtake x.disk p0 x.geom).2.1 (overS (cread x.disk l1 guest).1 off s).1)).1 (rtake x.disk p0 x.geom).1 x.geom guest ⟨1,(rtake x.disk p0 x.geom).2.1⟩).2)
 else cdone (wdisk x (layL x.disk (zb4 (rtake x.disk p0 x.geom).2.1 (overS (cread x.disk l1 guest).1 off s).1)).1) (ppoint (layL x.disk (zb4 (rtake x.disk p0 x.geom).2.1 (overS (cread x.disk l1 guest).1 off s).1)).1 (rtake x.disk p0 x.geom).1 x.geom guest ⟨1,(rtake x.disk p0 x.geom).2.1⟩).1
def zhT (x:Img) (l1:Int) (y:Ent2) (guest off:Int) (s:Txt):Img×Int:=
  if y.kind=1 then
    (if (rget x.disk p0 y.loc).2≠0 then (x,(rget x.disk p0 y.loc).2)
     else if (rget x.disk p0 y.loc).1≤1 then (wdisk x (zgO x.disk y.loc off s).1,(zgO x.disk y.loc off s).2)
     else zea x l1 guest off s)
  else zea x l1 guest off s
def zgr (x:Img) (guest off:Int) (s:Txt):Img×Int:=
 if (zi x.disk p0).2≠0 then (x,(zi x.disk p0).2)
 else if (elook x.disk p0 (zi x.disk p0).1.l1 guest).2≠0 then (x,(elook x.disk p0 (zi x.disk p0).1.l1 guest).2)
 else zhT x (zi x.disk p0).1.l1 (elook x.disk p0 (zi x.disk p0).1.l1 guest).1 guest off s
def zdM (x:Img) (guest off:Int) (s:Txt):Img×Int:=
 if x.broken then (x,24) else if guest<0∨x.geom.guest≤guest∨off<0∨128 - (s.length:Int)<off then (x,10)
 else if s= [] then (x,0) else zgr (cmark x guest) guest off s
set_option maxHeartbeats 1600000 in
theorem zmG (x:Img) (guest off:Int) (s:Txt) (hp:ImgF x∧s.length≤9223372036854775807):AC 29 [imgA x,.d (.int .i64 guest),.d (.int .i64 off),.d (.str s)] (.tup [imgA (zdM x guest off s).1,.d (.int .i64 (zdM x guest off s).2)]):=by
 obtain ⟨h,hs⟩:=hp
 refine fbod Tryz.func29 Tryz.ntmps29 (fun base=>?_)
 have hi:=h.ok
 have hm:=h.maps
 refine' zhv (zaN 3) fx (za zv <| za zu <| za zai <| za zY <| za zah <| za zO <| za zr <| za zZ <| za zP <| za zB <| za zag <| za zo <| zb _)
 ·rw [zdM,if_pos hc]
 have hbr2:=hc
 have hbr:¬x.broken=true:=by rw [hbr2];exact fun h=>by cases h
 by_cases hrg:guest<0∨x.geom.guest≤guest∨off<0∨128 - (s.length:Int)<off
 ·have hw0:IntKind.i64.wrap (128 - (s.length:Int))=128 - s.length:=ze (by omega) (by omega)
  have hdec:(decide (guest<0)||decide (x.geom.guest≤guest)||decide (off<0)||decide (128<(s.length:Int))||decide (128 - (s.length:Int)<off))=true:=by
   simp only [Bool.or_eq_true,decide_eq_true_eq];omega
  refine' walkR (zp hw0 hdec) (za zv <| za zu <| za zai <| za zY <| za zah <| za zO <| za zr <| za zZ <| za zP <| za zB <| za zag <| za zo <| zb _)
  rw [zdM,if_neg hbr,if_pos hrg]
 have hw0:IntKind.i64.wrap (128 - (s.length:Int))=128 - s.length:=ze (by omega) (by omega)
 have hdec:(decide (guest<0)||decide (x.geom.guest≤guest)||decide (off<0)||decide (128<(s.length:Int))||decide (128 - (s.length:Int)<off))=false:=by
  simp only [Bool.or_eq_false_iff,decide_eq_false_iff_not];omega
 by_cases hs0:s= []
 ·have hse:(s== [])=true:=by rw [hs0];rfl
  refine' walkR (zA hw0 hdec hse) (za zv <| za zu <| za zai <| za zY <| za zah <| za zO <| za zr <| za zZ <| za zP <| za zB <| za zag <| za zo <| zb _)
  rw [zdM,if_neg hbr,if_neg hrg,if_pos hs0]
 have hse:(s== [])=false:=by simpa using hs0
 have heq:zdM x guest off s=zgr (cmark x guest) guest off s:=by rw [zdM,if_neg hbr,if_neg hrg,if_neg hs0]
 refine' zhv (zaN 8) (zA hw0 hdec hse) (za zv <| za zu <| za zai <| za zY <| za zah <| za zO <| za zr <| za zZ <| za zP <| za zB <| za zag <| za zo <| zb _)
 rw [heq]
 have hX:=h.mark guest
 revert hX
 generalize cmark x guest=X
 intro hX
 have hXd:=hX.disk
 have hXo:=hX.ok
 have hXg:=hX.guest
 have hXh:=hX.host
 have hX0:=hX.seq0
 have hX1:=hX.seq1
 have hdp:DP X.disk p0:=⟨hXd,zcw⟩
 refine aw_le ⟨[(1,true,.d (.int .i64 guest)),(2,true,.d (.int .i64 off)),(3,true,.d (.str s)),(4,true,.vp 0 0),(8,true,.vp 1 0)],[(1,.var img0),(0,.var (imgV X))],some []⟩ le0 ?_
 have hk1:(elook X.disk p0 (zi X.disk p0).1.l1 guest).1.kind=1→zH (elook X.disk p0 (zi X.disk p0).1.l1 guest).1.loc=true:=zgp
 obtain ⟨r,hr⟩:∃r,r=zi X.disk p0:=⟨_,rfl⟩
 rw [← hr] at hk1
 obtain ⟨y,hy⟩:∃y,y=elook X.disk p0 r.1.l1 guest:=⟨_,rfl⟩
 rw [← hy] at hk1
 obtain ⟨n,hn⟩:∃n,n=rget X.disk p0 y.1.loc:=⟨_,rfl⟩
 have hc2:zgr X guest off s=if r.2≠0 then (X,r.2) else if y.2≠0 then (X,y.2) else zhT X r.1.l1 y.1 guest off s:=by rw [zgr,← hr,← hy]
 have hc3:zhT X r.1.l1 y.1 guest off s=if y.1.kind=1 then (if n.2≠0 then (X,n.2) else if n.1≤1 then (wdisk X (zgO X.disk y.1.loc off s).1,(zgO X.disk y.1.loc off s).2) else zea X r.1.l1 guest off s) else zea X r.1.l1 guest off s:=by rw [zhT,← hn]
 rw [hc3] at hc2
 by_cases hin:y.1.kind=1∧(n.2≠0∨n.1≤1)
 ·rw [hc2]
  have hkb:(y.1.kind==1)=true:=beq_iff_eq.2 hin.1
  have hho:=hk1 hin.1
  refine' zhv (zaN 20) (z8 hr.symm hy.symm hn.symm hkb) (za zv <| za zu <| za zai <| za zY <| za zah <| za zO <| za zr <| za zZ <| za zP <| za zB <| za zag <| za zo <| zb _)
  all_goals try ((refine (show (_:AV)=_ from ?_));(repeat (first|(rewrite [if_pos];rotate_left;(first|exact bneP (by assumption)|exact beqP (by assumption)|exact of_decide_eq_true (by assumption)|assumption))|(rewrite [if_neg];rotate_left;(first|exact bneN (by assumption)|exact beqN (by assumption)|exact of_decide_eq_false (by assumption)|assumption))));done)
  all_goals try (rw [if_pos hin.1];(refine (show (_:AV)=_ from ?_));(repeat (first|(rewrite [if_pos];rotate_left;(first|exact bneP (by assumption)|exact beqP (by assumption)|exact of_decide_eq_true (by assumption)|assumption))|(rewrite [if_neg];rotate_left;(first|exact bneN (by assumption)|exact beqN (by assumption)|exact of_decide_eq_false (by assumption)|assumption))));rfl)
  rename_i h1
  exact absurd hin.2 (by rintro (h|h);exact bneN h1 h;exact of_decide_eq_false hc h)
 ·have hc4:zgr X guest off s=if r.2≠0 then (X,r.2) else if y.2≠0 then (X,y.2) else zea X r.1.l1 guest off s:=by
   rw [hc2]
   by_cases hk:y.1.kind=1
   ·rw [if_pos hk,if_neg (fun h=>hin ⟨hk,.inl h⟩),if_neg (fun h=>hin ⟨hk,.inr h⟩)]
   ·rw [if_neg hk]
  rw [hc4]
  clear hc2 hc3 hc4
  refine' zhv (zaN 14) (zp hr.symm hy.symm) (za zv <| za zu <| za zai <| za zY <| za zah <| za zO <| za zr <| za zZ <| za zP <| za zB <| za zag <| za zo <| zb _)
  all_goals try ((refine (show (_:AV)=_ from ?_));(repeat (first|(rewrite [if_pos];rotate_left;(first|exact bneP (by assumption)|exact beqP (by assumption)|exact of_decide_eq_true (by assumption)|assumption))|(rewrite [if_neg];rotate_left;(first|exact bneN (by assumption)|exact beqN (by assumption)|exact of_decide_eq_false (by assumption)|assumption))));done)
  all_goals try ((refine (show (_:AV)=_ from ?_));(repeat (first|(rewrite [if_pos];rotate_left;(first|exact bneP (by assumption)|exact beqP (by assumption)|exact of_decide_eq_true (by assumption)|assumption))|(rewrite [if_neg];rotate_left;(first|exact bneN (by assumption)|exact beqN (by assumption)|exact of_decide_eq_false (by assumption)|assumption))));rfl)
  have e1:=bneN hc
  rename_i hc0
  have e0:=bneN hc0
  rw [if_neg e0,if_neg e1]
  clear hc hc0
  refine zqj ⟨[(1,true,.d (.int .i64 guest)),(2,true,.d (.int .i64 off)),(3,true,.d (.str s)),(4,true,.vp 0 0),(8,true,.vp 1 0),(10,true,.vp 2 0)],[(2,.var [.d (.int .i64 r.1.l1),.d (.int .u32 r.1.next)]),(1,.var img0),(0,.var (imgV X))],some []⟩ ?_ ?_
  ·refine' walkR (zA hr.symm hy.symm hn.symm) (za zv <| za zu <| za zai <| za zY <| za zah <| za zO <| za zr <| za zZ <| za zP <| za zB <| za zag <| za zo <| zb _)
   all_goals try exact hk1 (beqP (by assumption))
   ·rename_i hk
    exact absurd ⟨beqP hk,.inl (bneP hc)⟩ hin
   ·rename_i hk _
    exact absurd ⟨beqP hk,.inr (of_decide_eq_true hc)⟩ hin
  ·obtain ⟨t,ht⟩:∃t,t=rtake X.disk p0 X.geom:=⟨_,rfl⟩
   obtain ⟨c,hcc⟩:∃c,c=cread X.disk r.1.l1 guest:=⟨_,rfl⟩
   obtain ⟨b,hb⟩:∃b,b=(overS c.1 off s).1:=⟨_,rfl⟩
   have hth:t.2.2=0→zH t.2.1=true:=by rw [ht];exact zpf
   have hbl:c.2=0→b.length=128:=fun h=>by
    have:=zk6 (l1:=r.1.l1) (g:=guest) hXd.puts (by rw [← hcc];exact h)
    rw [← hcc] at this
    rw [hb,zrk (by omega) (by omega),this]
   have hcl:c.1.length≤128:=by rw [hcc];exact ztt hXd.puts
   have hpt:DP X.disk t.1:=by rw [ht];exact hdp.rtake _
   have hpt2:pfit t.1=true:=hpt.p
   have hw4:zea X r.1.l1 guest off s=if t.2.2≠0 then (X,t.2.2) else if c.2≠0 then (X,c.2) else if (layL X.disk (zb4 t.2.1 b)).2≠0 then (wdisk X (layL X.disk (zb4 t.2.1 b)).1,(layL X.disk (zb4 t.2.1 b)).2)
     else if (ppoint (layL X.disk (zb4 t.2.1 b)).1 t.1 X.geom guest ⟨1,t.2.1⟩).2≠0 then (wdisk X (layL X.disk (zb4 t.2.1 b)).1,(ppoint (layL X.disk (zb4 t.2.1 b)).1 t.1 X.geom guest ⟨1,t.2.1⟩).2)
     else cdone (wdisk X (layL X.disk (zb4 t.2.1 b)).1) (ppoint (layL X.disk (zb4 t.2.1 b)).1 t.1 X.geom guest ⟨1,t.2.1⟩).1:=by rw [zea,← ht,← hcc,← hb]
   rw [hw4]
   clear hw4
   refine' zhv (zaN 27) (zA ht.symm hcc.symm hb.symm) (za zv <| za zu <| za zai <| za zY <| za zah <| za zO <| za zr <| za zZ <| za zP <| za zB <| za zag <| za zo <| zb _)
   all_goals try ((refine (show (_:AV)=_ from ?_));(repeat (first|(rewrite [if_pos];rotate_left;(first|exact bneP (by assumption)|exact beqP (by assumption)|exact of_decide_eq_true (by assumption)|assumption))|(rewrite [if_neg];rotate_left;(first|exact bneN (by assumption)|exact beqN (by assumption)|exact of_decide_eq_false (by assumption)|assumption))));rfl)
   rename_i h0
   have e2:=bneN h0
   have e3:=bneN hc
   have hb128:=hbl (by omega)
   have hth2:=hostOk_iff.1 (hth (by omega))
   obtain ⟨L,hL⟩:∃L,L=layL X.disk (zb4 t.2.1 b):=⟨_,rfl⟩
   have hLF:DiskF L.1:=by rw [hL];exact DiskF.layL _ hXd
   rw [if_neg e2,if_neg e3,← hL]
   clear h0 hc
   generalize hZ:(if L.2≠0 then (wdisk X L.1,L.2) else if (ppoint L.1 t.1 X.geom guest ⟨1,t.2.1⟩).2≠0 then (wdisk X L.1,(ppoint L.1 t.1 X.geom guest ⟨1,t.2.1⟩).2) else cdone (wdisk X L.1) (ppoint L.1 t.1 X.geom guest ⟨1,t.2.1⟩).1:Img×Int)=Z
   refine aw_le ⟨[(1,true,.d (.int .i64 guest)),(2,true,.d (.int .i64 off)),(3,true,.d (.str s)),(4,true,.vp 0 0),(8,true,.vp 1 0),(15,true,.vp 3 0),(16,true,.d (.int .i64 t.2.1)),(17,true,.d (.str b))],[(3,.var (planC t.1)),(1,.var img0),(0,.var (imgV X))],some []⟩ (by simp only [AS.le,leT,leH,zj,AsgK,AV.le,AV.leL,AObj.le,inH,idsT,idsH,AV.ids,AV.idsL,AV.idsR,AObj.ids,lk,hget,go_sem,aeq,aeq.aeqF,simprocAttr,planC]) ?_
   refine' walkR fx (za zv <| za zu <| za zai <| za zY <| za zah <| za zO <| za zr <| za zZ <| za zP <| za zB <| za zag <| za zo <| zb _)
   refine zk (fun q: { q:Nat×Disk // q.1≤2∧DiskF q.2∧L=layL q.2 ((zb4 t.2.1 b).drop q.1) } =>⟨[(1,true,.d (.int .i64 guest)),(2,true,.d (.int .i64 off)),(3,true,.d (.str s)),(4,true,.vp 0 0),(8,true,.vp 1 0),(15,true,.vp 3 0),(16,true,.d (.int .i64 t.2.1)),(17,true,.d (.str b)),(18,true,.d (.int .i64 q.1.1))],[(3,.var (planC t.1)),(1,.var img0),(0,.var (imgV (wdisk X q.1.2)))],some []⟩) (fun q=>2 - q.1.1) ⟨(0,X.disk),Nat.zero_le _,hXd,hL⟩ (by simp only [AS.le,leT,leH,zj,AsgK,AV.le,AV.leL,AObj.le,inH,idsT,idsH,AV.ids,AV.idsL,AV.idsR,AObj.ids,lk,hget,go_sem,aeq,aeq.aeqF,simprocAttr,wdisk]<;>and_intros<;>rfl) (fun q=>?_)
   obtain ⟨⟨i,d⟩,hi2,hF,hf⟩:=q
   simp only at hi2 hF hf ⊢
   have hF1:=hF.ok
   have hc0:((0:Nat):Int)=0:=rfl
   have hc1:((1:Nat):Int)=1:=rfl
   have hc2:((2:Nat):Int)=2:=rfl
   have h64:Int.toNat 64=64:=rfl
   have h128:Int.toNat 128=128:=rfl
   have hz0:Int.toNat 0=0:=rfl
   have hw1:IntKind.i64.wrap 1=1:=by decide
   have hw2:IntKind.i64.wrap 2=2:=by decide
   have hw64:IntKind.i64.wrap 64=64:=by decide
   have hw128:IntKind.i64.wrap 128=128:=by decide
   have hwz:IntKind.i64.wrap 0=0:=by decide
   have hwk:IntKind.i64.wrap (96+2*t.2.1+0)=96+2*t.2.1:=by rw [Int.add_zero];exact ze (by omega) (by omega)
   have hwk1:IntKind.i64.wrap (96+2*t.2.1+1)=96+2*t.2.1+1:=ze (by omega) (by omega)
   have h3:i=0∨i=1∨i=2:=by omega
   rcases h3 with rfl|rfl|rfl
   ·have hf':L=if (zT d (96+2*t.2.1) (b.take 64)).2≠0 then zT d (96+2*t.2.1) (b.take 64) else layL (zT d (96+2*t.2.1) (b.take 64)).1 ((zb4 t.2.1 b).drop 1):=hf
    have hFn:=hF.write (96+2*t.2.1) (b.take 64)
    refine' walkR (zL hc0 hw1 hw64 hwz hz0 (z8 h64 hwk hb128 @wdisk.eq_1)) (za zv <| za zu <| za zai <| za zY <| za zah <| za zO <| za zr <| za zZ <| za zP <| za zB <| za zag <| za zo <| zb _)
    ·rw [if_pos (bneP hc)] at hf'
     rw [← hZ,hf',if_pos (bneP hc)]
     rfl
    ·rw [if_neg (bneN hc)] at hf'
     exact ⟨⟨(1,_),by show (1:Nat)≤2;omega,hFn,hf'⟩,by simp only [AS.le,leT,leH,zj,AsgK,AV.le,AV.leL,AObj.le,inH,idsT,idsH,AV.ids,AV.idsL,AV.idsR,AObj.ids,lk,hget,go_sem,aeq,aeq.aeqF,simprocAttr,wdisk]<;>and_intros<;>rfl,by simp⟩
   ·have hf':L=if (zT d (96+2*t.2.1+1) ((b.take 128).drop 64)).2≠0 then zT d (96+2*t.2.1+1) ((b.take 128).drop 64) else ((zT d (96+2*t.2.1+1) ((b.take 128).drop 64)).1,0):=hf
    have hFn:=hF.write (96+2*t.2.1+1) ((b.take 128).drop 64)
    refine' walkR (zL hc1 hw2 hw64 hw128 h128 (z8 h64 hwk1 hb128 @wdisk.eq_1)) (za zv <| za zu <| za zai <| za zY <| za zah <| za zO <| za zr <| za zZ <| za zP <| za zB <| za zag <| za zo <| zb _)
    ·rw [if_pos (bneP hc)] at hf'
     rw [← hZ,hf',if_pos (bneP hc)]
     rfl
    ·rw [if_neg (bneN hc)] at hf'
     exact ⟨⟨(2,_),by show (2:Nat)≤2;omega,hFn,hf'⟩,by simp only [AS.le,leT,leH,zj,AsgK,AV.le,AV.leL,AObj.le,inH,idsT,idsH,AV.ids,AV.idsL,AV.idsR,AObj.ids,lk,hget,go_sem,aeq,aeq.aeqF,simprocAttr,wdisk]<;>and_intros<;>rfl,by simp⟩
   ·have hLd:L=(d,0):=hf
    have hdq:DP d t.1:=⟨hF,hpt2⟩
    have hQp:pfit (ppoint d t.1 X.geom guest ⟨1,t.2.1⟩).1=true:=(hdq.ppoint _ _ _).p
    have hXw:ImgOk ⟨d,X.geom,X.jour,X.maps,X.broken⟩:=(hX.wd hF).ok
    rw [hLd] at hZ
    refine' walkR (zp hc2 @wdisk.eq_1) (za zv <| za zu <| za zai <| za zY <| za zah <| za zO <| za zr <| za zZ <| za zP <| za zB <| za zag <| za zo <| zb _)
    ·rw [← hZ,if_neg (by simp),if_pos (bneP hc)]
     rfl
    ·rw [← hZ,if_neg (by simp),if_neg (bneN hc)]
     rfl
@[go_sem] noncomputable def zjQ:Ent Tryz.prog 29:= .m4 zbD (intT .i64) (intT .i64) strT zmG
end Go.Aw
