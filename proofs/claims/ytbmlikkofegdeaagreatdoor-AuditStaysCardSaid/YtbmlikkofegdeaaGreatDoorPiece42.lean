/-
 The law AuditStays.
-/
import Derived.Test.YtbmlikkofegdeaaGreatDoorPiece37
import Derived.Test.YtbmlikkofegdeaaGreatDoorPiece17
import Derived.Test.YtbmlikkofegdeaaGreatDoorPiece39
import Derived.Test.YtbmlikkofegdeaaGreatDoorPiece41
set_option maxRecDepth 100000
set_option maxHeartbeats 2000000
set_option linter.unusedSimpArgs false
set_option linter.unusedVariables false
namespace Go.Aw
open Go Go.Proofs
theorem zo0 (x:Img) (hp:ImgF x/\0<=x.geom.host):AC 23 [imgA x] (.d (.bool (zjo x))):=by
 obtain ⟨h,hh⟩:=hp;refine fbod Tryz.func23 Tryz.ntmps23 (λbase=>?_);obtain ⟨F,hF⟩:∃F,F=zaF x.disk:=⟨_,rfl⟩
 obtain ⟨N,hN⟩:∃N,N=zba x:=⟨_,rfl⟩
 have hal:zjo x=(F.2==0&&N.2==0&&F.1.all (λt=>N.1.getD t.toNat 0==1)):=by rw [hF,hN];rfl
 have hFl:F.1.length<=9:=by rw [hF];exact zf4 _
 cases hb:(F.2 !=0||N.2 !=0) with
 | true=>
  refine' walkR (zB hF.symm hN.symm hb) (za zU <| za zcK <| zb _);rw [hal];by_cases h1:F.2=0
  ·have h2:N.2≠0:=by simpa [h1] using hb
   simp [h1,h2]
  ·simp [h1]
 | false=>
  simp only [Bool.or_eq_false_iff,bne_eq_false_iff_eq] at hb;obtain ⟨hb1,hb2⟩:=hb;rw [hb1,hb2] at hal;simp only [beq_self_eq_true,Bool.true_and] at hal;obtain ⟨a1,a2,a3⟩:=zna (x:=x) (by rw [<-hN];exact hb2);have hfr:=zf5 x.disk;rw [<-hF] at a2 a3 hfr;rw [<-hN] at a3;have hNl:N.1.length=x.geom.host.toNat:=by rw [a3,zbH]
  refine' walkR (zL hF.symm hN.symm hb1 hb2 @bne_self_eq_false.{0} @Bool.or_self) (za zU <| za zcK <| zb _);refine zq (λq: { i:Nat // i<=F.1.length/\F.1.all (λt=>N.1.getD t.toNat 0==1)=(F.1.drop i).all (λt=>N.1.getD t.toNat 0==1) } =>⟨[(3,true,.d (.sl 1 (F.1.map intD))),(5,true,.d (.sl 1 (N.1.map intD))),(7,true,.d (.int .i64 q.1))],[],some []⟩) (λq=>F.1.length - q.1) ⟨0,Nat.zero_le _,rfl⟩ le0 (λq=>?_);obtain ⟨i,hi,ht⟩:=q;simp only at hi ht ⊢;rcases zP intD F.1 i hi with ⟨u,hq,hlt,hcmp,hrow,hdr,htk⟩|⟨hend,hcmp⟩
  ·simp only [intD] at hrow;have hwi:=zr (i:=i) (by omega);have hum:=List.mem_of_getElem? hq;have hu1:=(a2 u hum).1;have hu0:=(hfr u hum).1;obtain ⟨k,rfl⟩:∃k:Nat,u=k:=⟨u.toNat,by omega⟩
   obtain ⟨v,hv⟩:=zas (l:=N.1) (i:=k) (by omega);have hrow2:=zco (g:=intD) hv;simp only [intD] at hrow2;have hvg:N.1.getD k 0=v:=by rw [List.getD_eq_getElem?_getD,hv];rfl
   rw [hdr,List.all_cons,Int.toNat_natCast,hvg] at ht;cases hz:(v !=1) with
   |true=>
    have hv1:(v==1)=false:=by simpa using hz
    rw [hv1,Bool.false_and] at ht;refine' walkR (zbj hcmp hrow natC hrow2 hz) (za zU <| za zcK <| zb _);all_goals first|omega|skip
    rw [hal,ht]
   |false=>
    have hv1:(v==1)=true:=by simpa using hz
    rw [hv1,Bool.true_and] at ht;refine' walkR (zbj hcmp hrow natC hrow2 hz) (za zU <| za zcK <| zb _);all_goals first|omega|skip
    exact ⟨⟨i+1,by omega,ht⟩,lew,by simp;omega⟩
  ·refine' walkR hcmp (za zU <| za zcK <| zb _);rw [hal,ht,hend,List.drop_length];rfl
@[go_sem] noncomputable def zaf:Ent Tryz.prog 23:= .m1 zbG zo0
theorem zxT {x:Img} (h:zgf x=true):∀q∈(zaG x).1.map keyF,0<=q.2:=by unfold zgf at h;simp only [Bool.and_eq_true,Bool.not_eq_true',List.any_eq_false,decide_eq_true_eq] at h;intro q hq;obtain ⟨f,hf,rfl⟩:=List.mem_map.1 hq;have:=h.1 f hf;show 0<=f.have_ - f.want;omega
theorem zwx {D:Int->Int} :∀ {m k:Nat},(∀q∈dls D m k,0<=q.2)->∀ {j:Int},(k:Int)<=j->j<((k+m:Nat):Int)->0<=D j
 |0,k,h,j,h0,h1=>by omega
 | m+1,k,h,j,h0,h1=>by
  rw [dls] at h;by_cases e:j=k
  ·subst e;by_cases hz:D k=0
   ·omega
   ·rw [if_pos hz] at h;exact h ((k:Int),D k) (by simp)
  ·exact zwx (m:=m) (k:=k+1) (λq hq=>h q (List.mem_append.2 (.inr hq))) (by omega) (by omega)
def ydeed (x:Img) (r:Int) (b:Bool) (guest off:Int) (s:Txt) (n id:Int):Img:=
 if r=0 then (zdo x guest off s).1 else if r=1 then (zgW x off n b).1 else if r=2 then (zag x s).1 else if r=3 then (zbB x id).1 else (zbC x id).1
theorem IF.clearL (hole:Bool):∀ (l:List (Nat×Nat×Nat)) {x:Img},ImgF x->IF x (ze8 hole l x).1/\ImgF (ze8 hole l x).1
 | [],x,h=>⟨IF.refl x,h⟩
 | q::r,x,h=>by
  have h1:=IF.clear1 h hole q;have h2:=h.clear1 hole q;rw [ze8];split
  ·exact ⟨h1,h2⟩
  ·obtain ⟨g1,g2⟩:=IF.clearL hole r h2;exact ⟨h1.trans g1,g2⟩
theorem IF.clear {x:Img} (h:ImgF x) (a n:Int) (hole:Bool):IF x (zgW x a n hole).1/\ImgF (zgW x a n hole).1:=by
 unfold zgW;split
 ·exact ⟨IF.refl x,h⟩
 split
 ·exact ⟨IF.refl x,h⟩
 ·exact IF.clearL hole _ h
theorem Kp.clearL {h:Int} {D:Int->Int} (hD:∀k,0<=k->k<h->0<=D k) (hole:Bool):∀ (l:List (Nat×Nat×Nat)) {x:Img},ImgF x->Kp h D x->Kp h D (ze8 hole l x).1
 | [],x,hx,s=>s
 | q::r,x,hx,s=>by
  have h1:Kp h D (zdm hole q x).1:=by
   unfold zdm;split
   ·exact Kp.wipe hx s hD _ _
   ·exact Kp.write hx s hD _ _ _
  rw [ze8];split
  ·exact h1
  ·exact Kp.clearL hD hole r (hx.clear1 hole q) h1
theorem Kp.deed {x:Img} {h:Int} {D:Int->Int} (hx:ImgF x) (s:Kp h D x) (hD:∀k,0<=k->k<h->0<=D k) (r:Int) (b:Bool) (guest off:Int) (t:Txt) (n id:Int):Kp h D (ydeed x r b guest off t n id):=by
 unfold ydeed;split
 ·exact Kp.write hx s hD _ _ _
 split
 ·unfold zgW;split
  ·exact s
  split
  ·exact s
  ·exact Kp.clearL hD b _ hx s
 split
 ·exact Kp.create hx s hD _
 split
 ·exact Kp.delete hx s _
 ·exact Kp.revert hx s _
theorem IF.deed {x:Img} (hx:ImgF x) (r:Int) (b:Bool) (guest off:Int) (t:Txt) (n id:Int):IF x (ydeed x r b guest off t n id)/\ImgF (ydeed x r b guest off t n id):=by
 unfold ydeed;split
 ·exact ⟨IF.write hx _ _ _,hx.write _ _ _⟩
 split
 ·exact IF.clear hx _ _ _
 split
 ·exact ⟨IF.create hx _,hx.create _⟩
 split
 ·exact ⟨IF.delete hx _,hx.delete _⟩
 ·exact ⟨IF.revert hx _,hx.revert _⟩
theorem zjS (x:Img) (what:Int) (guest:Int) (off:Int) (s:Txt) (n:Int) (id:Int) (h:ImgOk x) (hs:s.length≤9223372036854775807) (h0:0≤id) (h1:id≤4294967295):ACall Tryz.prog 5 0 [imgA x,.d (.int .i64 what),.d (.int .i64 guest),.d (.int .i64 off),.d (.str s),.d (.int .i64 n),.d (.int .u32 id)] [] (fun r _=>r= .d (.bool true)):=by
 refine fbod Tryz.func5 Tryz.ntmps5 (fun base=>?_)
 cases hg:agood x with
 |false=>refine' walkR hg (za za6 <| za zaL <| za zai <| za zN <| za zaf <| za zau <| za zQ <| za zaK <| za za5 <| za zbw <| za za4 <| zb _)
 |true=>
 obtain ⟨hF,hh⟩:=zxQ h hg
 have hh0:0≤x.geom.host:=by omega
 have hm:x.maps.length≤5000:=by
  unfold agood at hg
  simp only [Bool.and_eq_true,decide_eq_true_eq] at hg
  omega
 have hgu:0≤x.geom.guest:=by
  unfold agood ifit at hg
  simp only [Bool.and_eq_true,decide_eq_true_eq] at hg
  have:=hg.2.1.1.1.1.1
  rw [geo_iff] at this
  omega
 have hfit:ifit x=true:=by
  unfold agood at hg
  simp only [Bool.and_eq_true,decide_eq_true_eq] at hg
  exact hg.2
 obtain ⟨r,hr⟩:∃r,r=(IntKind.u64.wrap what).tmod 5:=⟨_,rfl⟩
 cases hb:(x.broken|| !zgf x|| !zjo x) with
 |true=>refine' walkR (zn hg hb) (za za6 <| za zaL <| za zai <| za zN <| za zaf <| za zau <| za zQ <| za zaK <| za za5 <| za zbw <| za za4 <| zb _)
 |false=>
 have hb2:=hb
 simp only [Bool.or_eq_false_iff,Bool.not_eq_false'] at hb2
 obtain ⟨⟨hb3,hb4⟩,hb5⟩:=hb2
 have hck:(zaG x).2=0:=by
  unfold zgf at hb4
  simp only [Bool.and_eq_true,beq_iff_eq] at hb4
  exact hb4.2
 obtain ⟨C,hC⟩:∃C,C=zaG x:=⟨_,rfl⟩
 obtain ⟨b,hbe⟩:∃b:Bool,b=(guest.tmod 2==0):=⟨_,rfl⟩
 obtain ⟨Y,hY⟩:∃Y,Y=ydeed x r b guest off s n id:=⟨_,rfl⟩
 refine' zki (zav 5) (zB hg hb hC.symm) (za za6 <| za zaL <| za zai <| za zN <| za zaf <| za zau <| za zQ <| za zaK <| za za5 <| za zbw <| za za4 <| zb _)
 refine zr3 ⟨[(15,true,.d (.sl 3 (C.1.map fndD))),(17,true,.vp 1 0)],[(1,.var (imgV Y))],some []⟩ ?_ ?_
 ·rw [hY]
  unfold ydeed
  have hwr:=hF.write guest off s
  by_cases e0:r=0
  ·have t0:(r==0)=true:=by simpa using e0
   rw [if_pos e0]
   refine' walkR (zn hr.symm t0) (za za6 <| za zaL <| za zai <| za zN <| za zaf <| za zau <| za zQ <| za zaK <| za za5 <| za zbw <| za za4 <| zb _)
  ·have t0:(r==0)=false:=by simpa using e0
   rw [if_neg e0]
   by_cases e1:r=1
   ·have t1:(r==1)=true:=by simpa using e1
    rw [if_pos e1]
    refine' walkR (zah hr.symm t0 t1 hbe.symm) (za za6 <| za zaL <| za zai <| za zN <| za zaf <| za zau <| za zQ <| za zaK <| za za5 <| za zbw <| za za4 <| zb _)
   ·have t1:(r==1)=false:=by simpa using e1
    rw [if_neg e1]
    by_cases e2:r=2
    ·have t2:(r==2)=true:=by simpa using e2
     rw [if_pos e2]
     refine' walkR (zah hr.symm t0 t1 t2) (za za6 <| za zaL <| za zai <| za zN <| za zaf <| za zau <| za zQ <| za zaK <| za za5 <| za zbw <| za za4 <| zb _)
    ·have t2:(r==2)=false:=by simpa using e2
     rw [if_neg e2]
     by_cases e3:r=3
     ·have t3:(r==3)=true:=by simpa using e3
      rw [if_pos e3]
      refine' walkR (zbj hr.symm t0 t1 t2 t3) (za za6 <| za zaL <| za zai <| za zN <| za zaf <| za zau <| za zQ <| za zaK <| za za5 <| za zbw <| za za4 <| zb _)
     ·have t3:(r==3)=false:=by simpa using e3
      rw [if_neg e3]
      refine' walkR (zbj hr.symm t0 t1 t2 t3) (za za6 <| za zaL <| za zai <| za zN <| za zaf <| za zau <| za zQ <| za zaK <| za za5 <| za zbw <| za za4 <| zb _)
 obtain ⟨hIF,hYF⟩:=IF.deed hF r b guest off s n id
 rw [← hY] at hIF hYF
 have hYo:=hYF.ok
 have hYfit:ifit Y=true:=hIF.fit hYF hfit
 have hYh:0≤Y.geom.host:=by rw [hIF.geom];exact hh0
 clear hr hbe
 cases ho:(Y.broken||Y.disk.off) with
 |true=>refine' walkR (zn ho hYfit) (za za6 <| za zaL <| za zai <| za zN <| za zaf <| za zau <| za zQ <| za zaK <| za za5 <| za zbw <| za za4 <| zb _)
 |false=>
 have hst:=St.of_audit hh0 hck hb5
 obtain ⟨D,hD⟩:∃D:Int→Int,D=fun k=>(rget x.disk p0 k).1 - ((allL (eget x.disk p0) ((ze x.disk p0).1.l1::snL x.disk)).count k:Nat):=⟨_,rfl⟩
 rw [← hD] at hst
 obtain ⟨m,hmh⟩:∃m:Nat,x.geom.host=m:=⟨x.geom.host.toNat,by omega⟩
 have hm256:m≤256:=by have:=hF.host;omega
 obtain ⟨x1,x2,x3,_⟩:=hst.audit hmh hm256
 have hD0:∀k,0≤k→k<x.geom.host→0≤D k:=by
  intro k g0 g1
  exact zwx (m:=m) (k:=0) (fun q hq=>zxT hb4 q (by rw [x2];exact hq)) (by omega) (by omega)
 have hkp:=Kp.deed hF ⟨rfl,.inr (.inr hst)⟩ hD0 r b guest off s n id
 rw [← hY] at hkp
 obtain ⟨k1,k2⟩:=hkp
 simp only [Bool.or_eq_false_iff] at ho
 obtain ⟨ho1,ho2⟩:=ho
 have hsy:St Y D:=by
  rcases k2 with k2|k2|k2
  ·rw [ho1] at k2;cases k2
  ·rw [ho2] at k2;cases k2
  ·exact k2
 obtain ⟨y1,y2,y3,y4⟩:=hsy.audit (k1.trans hmh) hm256
 have y4:=y4 (fun k _ g1=>hD0 k (by omega) (by omega))
 obtain ⟨E,hE⟩:∃E,E=zaG Y:=⟨_,rfl⟩
 rw [← hE] at y1 y2
 rw [← hC] at x2
 have hce:C.1.map keyF=E.1.map keyF:=by rw [x2,y2]
 have hlen:C.1.length=E.1.length:=by have:=congrArg List.length hce;simpa using this
 have hCl:C.1.length≤256:=by rw [hC];exact zf6 hF
 have ho:(Y.broken||Y.disk.off)=false:=by rw [ho1,ho2];rfl
 have hl2:((C.1.length:Int) !=(E.1.length:Int))=false:=by rw [hlen];simp
 refine' walkR (zL ho hE.symm y1 hl2 hYfit (zB y4 @bne_self_eq_false.{0} @Bool.or_self)) (za za6 <| za zaL <| za zai <| za zN <| za zaf <| za zau <| za zQ <| za zaK <| za za5 <| za zbw <| za za4 <| zb _)
 have hcr:∀f∈C.1,(0≤f.want∧f.want≤1000)∧(0≤f.have_∧f.have_≤65535)∧0≤f.loc:=fun f hf=>zhy (x:=x) (by rw [← hC];exact hf)
 have her:∀f∈E.1,(0≤f.want∧f.want≤1000)∧(0≤f.have_∧f.have_≤65535)∧0≤f.loc:=fun f hf=>zhy (x:=Y) (by rw [← hE];exact hf)
 refine zq (fun q: { i:Nat // i≤C.1.length } =>⟨[(15,true,.d (.sl 3 (C.1.map fndD))),(17,true,.vp 1 0),(18,true,.d (.sl 3 (E.1.map fndD))),(130,true,.d (.int .i64 C.1.length)),(131,true,.d (.int .i64 q.1))],[(1,.var (imgV Y))],some []⟩) (fun q=>C.1.length - q.1) ⟨0,Nat.zero_le _⟩ le1 (fun q=>?_)
 obtain ⟨i,hi⟩:=q
 simp only at hi ⊢
 rcases zP fndD C.1 i hi with ⟨u,hq,hlt,hcmp,hrow,hdr,htk⟩|⟨hend,hcmp⟩
 ·obtain ⟨v,hv⟩:=zas (l:=E.1) (i:=i) (by omega)
  have hrow2:=zco (g:=fndD) hv
  simp only [fndD] at hrow hrow2
  have hwi:=zr (i:=i) (by omega)
  have hcu:=hcr u (List.mem_of_getElem? hq)
  have hev:=her v (List.mem_of_getElem? hv)
  have hk:keyF u=keyF v:=by
   have e1:(C.1.map keyF)[i]?=some (keyF u):=by rw [List.getElem?_map,hq];rfl
   rw [hce,List.getElem?_map,hv] at e1
   exact (Option.some.inj e1).symm
  have hk1:u.loc=v.loc:=congrArg Prod.fst hk
  have hk2:u.have_ - u.want=v.have_ - v.want:=congrArg Prod.snd hk
  have ht1:(u.loc !=v.loc)=false:=by simp [hk1]
  have ht2:(IntKind.i64.wrap (u.have_ - u.want) !=IntKind.i64.wrap (v.have_ - v.want))=false:=by rw [hk2];simp
  refine' walkR (zbj hcmp hrow hrow2 ht1 ht2) (za za6 <| za zaL <| za zai <| za zN <| za zaf <| za zau <| za zQ <| za zaK <| za za5 <| za zbw <| za za4 <| zb _)
  all_goals first|omega|skip
  exact ⟨⟨i+1,by omega⟩,lev,by simp;omega⟩
 ·refine' walkR (zn hcmp y3) (za za6 <| za zaL <| za zai <| za zN <| za zaf <| za zau <| za zQ <| za zaK <| za za5 <| za zbw <| za za4 <| zb _)
end Go.Aw
