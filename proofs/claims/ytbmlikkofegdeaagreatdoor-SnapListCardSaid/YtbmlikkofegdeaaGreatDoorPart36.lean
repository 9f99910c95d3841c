/-
  Parts of the proof: SnapJ, SnapL, SnapM (short names; the readable texts lie in the repo, under wip).
-/
import Derived.Test.YtbmlikkofegdeaaGreatDoorPart35
import Derived.Test.YtbmlikkofegdeaaGreatDoorPart17
import Derived.Test.YtbmlikkofegdeaaGreatDoorPart32
set_option maxRecDepth 100000
set_option maxHeartbeats 2000000
set_option linter.unusedSimpArgs false
set_option linter.unusedVariables false
namespace Go.Aw
open Go Go.Proofs
theorem zpI (a b:List Snp) (ha:a.length≤9223372036854775807):AC 18 [.d (.sl 3 (a.map snpD)),.d (.sl 3 (b.map snpD))] (.d (.bool (decide (a=b)))):=by
 refine fbod Tryz.func18 Tryz.ntmps18 (fun base=>?_)
 by_cases hl:a.length=b.length
 ·have hb:((a.length:Int) !=(b.length:Int))=false:=by simp [hl]
  refine' zc hb
  refine zk (fun q: { i:Nat // i≤a.length∧a.take i=b.take i } =>⟨[(0,true,.d (.sl 3 (a.map snpD))),(1,true,.d (.sl 3 (b.map snpD))),(5,true,.d (.int .i64 q.1))],[],some []⟩) (fun q=>a.length - q.1) ⟨0,Nat.zero_le _,rfl⟩ le0 (fun q=>?_)
  obtain ⟨i,hi,ht⟩:=q
  simp only at hi ht ⊢
  rcases zM snpD a i hi with ⟨u,hq,hlt,hcmp,hrow,hdr,htk⟩|⟨hend,hcmp⟩
  ·obtain ⟨v,hv⟩:=zam (l:=b) (i:=i) (by omega)
   have hrow2:=zbk (g:=snpD) hv
   simp only [snpD] at hrow hrow2
   have hwi:=zn (i:=i) (by omega)
   have hes:(u.id==v.id&&(u.l1==v.l1&&u.name==v.name))=decide (u=v):=by
    obtain ⟨_,_,_⟩:=u
    obtain ⟨_,_,_⟩:=v
    rw [Bool.eq_iff_iff]
    simp
   by_cases e:u=v
   ·have he:decide (u=v)=true:=decide_eq_true e
    refine' zc (zbQ hcmp hrow hrow2 hes he)
    exact ⟨⟨i+1,by omega,by rw [htk,za9 hv,ht,e]⟩,lew,by simp;omega⟩
   ·have he:decide (u=v)=false:=decide_eq_false e
    refine' zc (zbQ hcmp hrow hrow2 hes he)
    rw [decide_eq_false]
    rintro rfl
    rw [hq] at hv
    exact e (Option.some.inj hv)
  ·refine' zc hcmp
   rw [decide_eq_true]
   rw [hend,List.take_length,hl,List.take_length] at ht
   exact ht
 ·have hb:((a.length:Int) !=(b.length:Int))=true:=by simp;omega
  refine' zc hb
  rw [decide_eq_false]
  rintro rfl
  exact hl rfl
@[go_sem] noncomputable def zgQ:Ent Tryz.prog 18:= .m2 (slT 3 snpD zds) (slT 3 snpD zds) zpI
theorem zt0 (x:Img) (h:ImgOk x):AC 6 [imgA x] (.d (.bool (agood x))):=by
 refine fbod Tryz.func6 Tryz.ntmps6 (fun base=>?_)
 refine' walkW fx (za zmE <| zb _)
 all_goals first|rfl|skip
@[go_sem] noncomputable def zaj:Ent Tryz.prog 6:= .m1 zbD zt0
def sw0:Img×Int:=zdM zh6 1 0 [120]
def sw1:Img×Int×Int:=zU sw0.1 [97]
def sw2:Img×Int:=zdM sw1.1 1 0 [121]
def sw3:Img×Int:=zcI sw2.1 1
theorem zvx:(sw0.2==0&&sw1.2.2==0&&sw1.2.1==1&&sw2.2==0&&(sread sw2.1 1 1).2==0&&((sread sw2.1 1 1).1.length==128)&&((sread sw2.1 1 1).1.getD 0 0==120)&&sw3.2==0&&(cread sw3.1.disk 0 1).2==0&&((cread sw3.1.disk 0 1).1.getD 0 0==120)&&((cread sw3.1.disk 0 1).1.length==128))=true:=by
 decide+kernel
theorem ImgF.create {x:Img} (h:ImgF x) (n:Txt):ImgF (zU x n).1:=by
 have hE:∀id q,ImgF (zeb x id q).1:=by intro id q;unfold zeb;split;exact h;split<;>exact h.done _
 have hD:∀r q,ImgF (zec x r q).1:=by intro r q;unfold zec;split;exact h;exact hE _ _
 have hC:∀n r a k q,ImgF (zed x n r a k q).1:=by intro n r a k q;unfold zed;split;exact h;exact hD _ _
 have hB:∀n r a k q,ImgF (zee x n r a k q).1:=by intro n r a k q;unfold zee;split;exact h;exact hC _ _ _ _ _
 have hA:∀n r a q,ImgF (zcR x n r a q).1:=by intro n r a q;unfold zcR;split;exact h;exact hB _ _ _ _ _
 unfold zU
 repeat (split;exact h)
 exact hA _ _ _ _
theorem ImgF.delete {x:Img} (h:ImgF x) (id:Int):ImgF (zaH x id).1:=by
 have hC:∀q,ImgF (sdelC x q).1:=by intro q;unfold sdelC;split;exact h;exact h.done _
 have hB:∀i q,ImgF (sdelB x i q).1:=by intro i q;unfold sdelB;split;exact h;exact hC _
 have hA:∀i k q,ImgF (sdelA x i k q).1:=by intro i k q;unfold sdelA;split;exact h;exact hB _ _
 unfold zaH
 repeat (split;exact h)
 exact hA _ _ _
theorem ImgF.revert {x:Img} (h:ImgF x) (id:Int):ImgF (zcI x id).1:=by
 have hC:∀q:Plan,ImgF (srevC x (cdone x q)).1:=by intro q;unfold srevC;split;exact h.done _;exact (h.done _).marks _
 have hB:∀q,ImgF (srevB x q).1:=by intro q;unfold srevB;split;exact h;exact hC _
 have hA:∀k r q,ImgF (srevA x k r q).1:=by intro k r q;unfold srevA;split;exact h;exact hB _
 have h0:∀k r q,ImgF (srev0 x k r q).1:=by intro k r q;unfold srev0;split;exact h;exact hA _ _ _
 unfold zcI
 repeat (split;exact h)
 exact h0 _ _ _
theorem zvy:sw2.1.maps.length=0:=by decide+kernel
theorem zsf:ACall Tryz.prog 7 0 [] [] (fun r _=>r= .d (.bool true)):=by
 have hS:=zr9
 have hfin:=zvx
 have hmp:=zvy
 obtain ⟨S,hSe⟩:∃S,S=zh6:=⟨_,rfl⟩
 have e0:sw0=zdM S 1 0 [120]:=by rw [hSe];rfl
 obtain ⟨X0,hX0⟩:∃X,X=sw0:=⟨_,rfl⟩
 have e1:sw1=zU X0.1 [97]:=by rw [hX0];rfl
 obtain ⟨X1,hX1⟩:∃X,X=sw1:=⟨_,rfl⟩
 have e2:sw2=zdM X1.1 1 0 [121]:=by rw [hX1];rfl
 obtain ⟨X2,hX2⟩:∃X,X=sw2:=⟨_,rfl⟩
 have e3:sw3=zcI X2.1 1:=by rw [hX2];rfl
 obtain ⟨X3,hX3⟩:∃X,X=sw3:=⟨_,rfl⟩
 rw [← hSe] at hS
 rw [← hX0] at e0
 rw [← hX1] at e1
 rw [← hX2] at e2 hmp
 rw [← hX3] at e3
 rw [← hX0,← hX1,← hX2,← hX3] at hfin
 have hF0:ImgF X0.1:=by rw [e0];exact hS.write _ _ _
 have hF1:ImgF X1.1:=by rw [e1];exact hF0.create _
 have hF2:ImgF X2.1:=by rw [e2];exact hF1.write _ _ _
 have hF3:ImgF X3.1:=by rw [e3];exact hF2.revert _
 have hd3:=hF3.disk
 have hm2:X2.1.maps.length≤5000:=by omega
 simp only [Bool.and_eq_true,beq_iff_eq,decide_eq_true_eq] at hfin
 obtain ⟨⟨⟨⟨⟨⟨⟨⟨⟨⟨f1,f2⟩,f3⟩,f4⟩,f5⟩,f6⟩,f7⟩,f8⟩,f9⟩,g1⟩,g2⟩:=hfin
 refine fbod Tryz.func7 Tryz.ntmps7 (fun base=>?_)
 refine' walkW (zL hSe.symm e0.symm e1.symm f3 e2.symm (zL e3.symm f1 f2 f4 f5 (zA f6 f8 f9))) (za zjY <| za zjQ <| za zab <| za zfr <| za zgy <| za zr <| zb _)
 all_goals first|omega|skip
 rw [f7,g1]
 rfl
@[go_sem] noncomputable def z6:Ent Tryz.prog 7:= .ofL nilL (fun _=>True) (fun _=> .d (.bool true)) (fun _ hp=>⟨rfl,zsf⟩)
theorem zlx (x:Img) (name:Txt) (id:Int) (guest:Int) (h:ImgOk x) (hn:name.length≤9223372036854775807) (h0:0≤id) (h1:id≤4294967295):ACall Tryz.prog 3 0 [imgA x,.d (.str name),.d (.int .u32 id),.d (.int .i64 guest)] [] (fun r _=>r= .d (.bool true)):=by
 refine fbod Tryz.func3 Tryz.ntmps3 (fun base=>?_)
 cases hg:agood x with
 |false=>refine' walkW hg (za zaj <| za z6 <| za z2 <| za zQ <| za zab <| za zfb <| za zaC <| za zfc <| za zgy <| za zfd <| za zfr <| za zgP <| za zgQ <| za zgN <| zb _)
 |true=>
 obtain ⟨hF,hh⟩:=zse h hg
 have hm:x.maps.length≤5000:=by
  unfold agood at hg
  simp only [Bool.and_eq_true,decide_eq_true_eq] at hg
  omega
 have hC:=(hF.create name).ok
 have hD:=(hF.delete id).ok
 have hR:=(hF.revert id).ok
 have hll:(slist x.disk).1.length≤9223372036854775807:=by
  rw [zfU]
  have:=zdw x.disk
  split
  ·exact Nat.zero_le _
  ·refine Nat.le_trans (List.length_filter_le ..) (by omega)
 (have tk:=za zaj <| za z6 <| za z2 <| za zQ <| za zab <| za zfb <| za zaC <| za zfc <| za zgy <| za zfd <| za zfr <| za zgP <| za zgQ <| za zgN <| zb Tryz.prog);repeat' (first|((first|(refine sa ?_;intro K hK)|refine sb ?_);simp only [go_sem,aeq,aeq.aeqF,simprocAttr,hg,eq_self,Tryz.results3])|refine zaD (fun K hK=>?_)|refine sc ?_|refine za5 rfl (fun hc=>?_) (fun hc=>?_)|(refine hK _ ?_;clear hK K)|with_reducible refine And.intro ?_ ?_|omega|assumption|refine fun (hg:(_:Bool)=(_:Bool))=>?_|clear hK K)
theorem zvz {n:Nat} {x:List D} (h:DTy Tryz.prog (n+1) 34 x):∃a:Int,x= [.int .u32 a]∧0≤a∧a≤4294967295:=by
 unfold DTy at h
 simp only [ty34] at h
 obtain ⟨a,rfl,h1,h2⟩:=h
 exact ⟨a,rfl,h1,h2⟩
theorem zvA (n:Int):argAV Tryz.prog 34 [.int .u32 n]= .d (.int .u32 n):=by simp only [argAV,ty34]
open Go Go.Proofs
theorem zgR {d:Disk} {by_:Int} :∀ (l:List Int) {p:Plan},DP d p→(shareK d by_ l p).2=0→∀ {b:Int},b<87∨95≤b→plook d (shareK d by_ l p).1 b=plook d p b
 | [],p,hd,h,b,hb=>rfl
 | k::r,p,hd,h,b,hb=>by
  rw [shareK] at h ⊢
  by_cases he:(radd d p k by_).2=0
  ·rw [if_neg (by omega)] at h ⊢
   rw [zgR r (hd.radd k by_) h hb,zgu hd he hb]
  ·rw [if_pos he] at h
   exact absurd h he
theorem zpJ {d:Disk} {p:Plan} {t by_:Int} (h:(share d p t by_).2=0):(reach d p t).2=0∧(shareK d by_ (reach d p t).1 p).2=0∧share d p t by_=shareK d by_ (reach d p t).1 p:=by
 unfold share at h ⊢
 split at h
 ·rename_i h1;exact absurd h h1
 rename_i h1
 rw [if_neg h1]
 split at h
 ·rename_i h2;exact absurd h h2
 rename_i h2
 rw [if_neg h2]
 exact ⟨by simpa using h1,by simpa using h2,rfl⟩
theorem zh9 {d:Disk} {p:Plan} {t by_:Int} (hd:DP d p) (h:(share d p t by_).2=0) {b:Int} (hb:b<87∨95≤b):plook d (share d p t by_).1 b=plook d p b:=by
 obtain ⟨_,h2,h3⟩:=zpJ h
 rw [h3]
 exact zgR _ hd h2 hb
theorem zpK {d:Disk} {p:Plan} {g:Geom} (h:(rtake d p g).2.2=0):(rfind d p g).2=0∧(radd d p (rfind d p g).1 1).2=0∧rtake d p g=((radd d p (rfind d p g).1 1).1,(rfind d p g).1,0):=by
 unfold rtake at h ⊢
 split at h
 ·rename_i h1;exact absurd h h1
 rename_i h1
 rw [if_neg h1]
 split at h
 ·rename_i h2;exact absurd h h2
 rename_i h2
 rw [if_neg h2]
 exact ⟨by simpa using h1,by simpa using h2,rfl⟩
theorem zno {d:Disk} {p:Plan} {g:Geom} (hd:DP d p) (h:(rtake d p g).2.2=0) {b:Int} (hb:b<87∨95≤b):plook d (rtake d p g).1 b=plook d p b:=by
 obtain ⟨_,h2,h3⟩:=zpK h
 rw [h3]
 exact zgu hd h2 hb
theorem zpL {d:Disk} {p:Plan} {a t:Int} (h:(ecopy d p a t).2=0):zH a=true∧zH t=true∧(plook d p (96+2*a)).2=0∧(pset p (96+2*t) (plook d p (96+2*a)).1).2=0∧
  (plook d (pset p (96+2*t) (plook d p (96+2*a)).1).1 (97+2*a)).2=0∧
  (pset (pset p (96+2*t) (plook d p (96+2*a)).1).1 (97+2*t) (plook d (pset p (96+2*t) (plook d p (96+2*a)).1).1 (97+2*a)).1).2=0∧
  ecopy d p a t=((pset (pset p (96+2*t) (plook d p (96+2*a)).1).1 (97+2*t) (plook d (pset p (96+2*t) (plook d p (96+2*a)).1).1 (97+2*a)).1).1,0):=by
 unfold ecopy at h ⊢
 split at h
 ·exact absurd h (by simp)
 rename_i h1
 rw [if_neg h1]
 simp only [not_or,Bool.not_eq_false] at h1
 simp only [zbg,Int.add_zero,Int.zero_add] at h ⊢
 rw [show 96+2*a+1=97+2*a by omega,show 96+2*t+1=97+2*t by omega] at h ⊢
 split at h
 ·rename_i h2;exact absurd h h2
 rename_i h2
 rw [if_neg h2]
 split at h
 ·rename_i h3;exact absurd h h3
 rename_i h3
 rw [if_neg h3]
 split at h
 ·rename_i h4;exact absurd h h4
 rename_i h4
 rw [if_neg h4]
 split at h
 ·rename_i h5;exact absurd h h5
 rename_i h5
 rw [if_neg h5]
 exact ⟨h1.1,h1.2,by simpa using h2,by simpa using h3,by simpa using h4,by simpa using h5,rfl⟩
theorem zpM {l:Txt} (h:l.all nameB=true):cutZ l=l:=by
 rcases List.eq_nil_or_concat l with rfl|⟨l',c,rfl⟩
 ·rfl
 ·rw [List.concat_eq_append] at h ⊢
  refine zeW l' c ?_
  rintro rfl
  simp [nameB] at h
theorem zol (l:Txt):∀n,cutZ (l++List.replicate n 0)=cutZ l
 |0=>by simp
 |n+1=>by
  rw [List.replicate_succ',← List.append_assoc,zfL,zol l n]
theorem zvB {s:Snp} (h:(snpB s).2=true) (h0:0≤s.id) (h1:s.id≤4294967295):(snpB s).1.length=16∧snpT (snpB s).1=s∧snpOk (snpB s).1=true:=by
 suffices hh:(snpB s).1.length=16∧snpT (snpB s).1=s by
  refine ⟨hh.1,hh.2,?_⟩
  unfold snpOk
  rw [hh.2,h]
  simp
 unfold snpB at h ⊢
 split at h
 ·rename_i hz
  rw [if_pos hz]
  refine ⟨by simp [z16],?_⟩
  unfold snpT
  rw [if_pos rfl]
  obtain ⟨a,b,c⟩:=s
  simp only at hz
  obtain ⟨rfl,rfl,rfl⟩:=hz
  rfl
 rename_i hz
 rw [if_neg hz]
 split at h
 ·exact absurd h (by simp)
 rename_i hc
 rw [if_neg hc]
 simp only [not_or,Bool.not_eq_false] at hc
 obtain ⟨hi,hn,hk⟩:=hc
 obtain ⟨hk0,hk1⟩:=hostOk_iff.1 hk
 obtain ⟨n1,n2,n3⟩:=zdK hn
 have l1:=zI s.id.toNat 4
 have l2:=zI s.l1.toNat 2
 simp only
 refine ⟨by simp only [List.length_append,l1,l2,n1,List.length_cons,List.length_nil],?_⟩
 have e1:(putN s.id.toNat 4++putN s.l1.toNat 2++ [0,0]++(nameS s.name).1).take 4=putN s.id.toNat 4:=by
  rw [List.append_assoc,List.append_assoc,List.take_append_of_le_length (by omega),List.take_of_length_le (by omega)]
 have e2:((putN s.id.toNat 4++putN s.l1.toNat 2++ [0,0]++(nameS s.name).1).drop 4).take 2=putN s.l1.toNat 2:=by
  rw [List.append_assoc,List.append_assoc,List.drop_append_of_le_length (by omega),List.drop_of_length_le (by omega),List.nil_append,List.take_append_of_le_length (by omega),List.take_of_length_le (by omega)]
 have e3:(putN s.id.toNat 4++putN s.l1.toNat 2++ [0,0]++(nameS s.name).1).drop 8=(nameS s.name).1:=by
  have hl:(putN s.id.toNat 4++putN s.l1.toNat 2++ [0,0]).length=8:=by simp only [List.length_append,l1,l2,List.length_cons,List.length_nil]
  rw [List.drop_append_of_le_length (by omega),List.drop_of_length_le (by omega),List.nil_append]
 have ht:takeN (putN s.id.toNat 4)=s.id.toNat:=by
  rw [zeG,Nat.mod_eq_of_lt]
  have:(256:Nat) ^ 4=4294967296:=by decide
  omega
 have ht2:takeN (putN s.l1.toNat 2)=s.l1.toNat:=by
  rw [zeG,Nat.mod_eq_of_lt]
  have:(256:Nat) ^ 2=65536:=by decide
  omega
 have hne:(putN s.id.toNat 4++putN s.l1.toNat 2++ [0,0]++(nameS s.name).1)≠z16:=by
  intro hz16
  have hz4:takeN (putN s.id.toNat 4)=0:=by
   rw [← e1,hz16]
   decide
  omega
 unfold snpT
 rw [if_neg hne,snpR,e1,e2,e3,ht,ht2]
 have hall:s.name.all nameB=true:=by
  unfold zar at hn
  rw [Bool.and_eq_true] at hn
  exact hn.1
 have hname:(zdg (nameS s.name).1).1=s.name:=by
  unfold zdg
  rw [if_neg (by omega),n3,zol,zpM hall,if_pos hn]
 rw [hname,Int.toNat_of_nonneg h0,Int.toNat_of_nonneg hk0]
theorem zsg {α:Type} {l:List α} {i:Nat} {u:α} (h:l[i]?=some u) (v:α):l=l.take i++u::l.drop (i+1)∧l.set i v=l.take i++v::l.drop (i+1):=by
 obtain ⟨hi,hu⟩:=List.getElem?_eq_some_iff.1 h
 constructor
 ·rw [← hu,List.getElem_cons_drop,List.take_append_drop]
 ·rw [List.set_eq_take_append_cons_drop,if_pos hi]
theorem zlE {d:Disk} {p:Plan} :∀ (m i:Nat) (l:List Snp),(snapsK d p m i l).2=0→(∀j,i≤j→j<i+m→(plook d p (2+(j / 4:Nat))).2=0∧snpOk (slotB (plook d p (2+(j / 4:Nat))).1 j)=true)∧
  (snapsK d p m i l).1=l++(List.range m).map (fun j=>snpT (slotB (plook d p (2+((i+j) / 4:Nat))).1 (i+j)))
 |0,i,l,h=>⟨fun j h1 h2=>by omega,by simp [snapsK]⟩
 | m +1,i,l,h=>by
  rw [snapsK] at h ⊢
  by_cases he:(plook d p (2+(i / 4:Nat))).2=0
  ·rw [if_neg (by omega)] at h ⊢
   cases ho:snpOk (slotB (plook d p (2+(i / 4:Nat))).1 i) with
   |false=>
    rw [ho,if_neg (by decide)] at h
    cases h
   | true=>
    rw [ho,if_pos rfl] at h
    rw [if_pos rfl]
    obtain ⟨h1,h2⟩:=zlE m (i+1) _ h
    refine ⟨fun j hj1 hj2=>?_,?_⟩
    ·by_cases e:j=i
     ·subst e;exact ⟨he,ho⟩
     ·exact h1 j (by omega) (by omega)
    ·have hm:(List.range m).map (fun j=>snpT (slotB (plook d p (2+((i+1+j) / 4:Nat))).1 (i+1+j)))=(List.range m).map ((fun j=>snpT (slotB (plook d p (2+((i+j) / 4:Nat))).1 (i+j))) ∘ Nat.succ):=by
      refine List.map_congr_left (fun j _=>?_)
      simp only [Function.comp]
      rw [show i+1+j=i+Nat.succ j by omega]
     rw [h2,List.range_succ_eq_map,List.map_cons,List.map_map,List.append_assoc,List.singleton_append,hm,Nat.add_zero]
  ·rw [if_pos he] at h
   exact absurd h he
theorem zlF {d:Disk} {p:Plan} :∀ (m i:Nat) (l:List Snp),(∀j,i≤j→j<i+m→(plook d p (2+(j / 4:Nat))).2=0∧snpOk (slotB (plook d p (2+(j / 4:Nat))).1 j)=true)→(snapsK d p m i l).2=0
 |0,i,l,h=>rfl
 |m+1,i,l,h=>by
  obtain ⟨h1,h2⟩:=h i (Nat.le_refl _) (by omega)
  rw [snapsK,if_neg (by omega),if_pos h2]
  exact zlF m (i+1) _ (fun j hj1 hj2=>h j (by omega) (by omega))
theorem zom {d:Disk} {p:Plan} (h:(snaps d p).2=0):(∀j,j<8→(plook d p (2+(j / 4:Nat))).2=0∧snpOk (slotB (plook d p (2+(j / 4:Nat))).1 j)=true)∧
  (snaps d p).1=(List.range 8).map (fun j=>snpT (slotB (plook d p (2+(j / 4:Nat))).1 j)):=by
 obtain ⟨h1,h2⟩:=zlE 8 0 [] h
 refine ⟨fun j hj=>h1 j (Nat.zero_le _) (by omega),?_⟩
 unfold snaps
 rw [h2,List.nil_append]
 refine List.map_congr_left (fun j _=>?_)
 rw [Nat.zero_add]
theorem zon (s:Txt) (i:Nat):slotB s i=(s.drop (i % 4*16)).take 16:=by
 unfold slotB
 rw [List.drop_take]
 congr 1
 omega
theorem zsh {s b:Txt} {i j:Nat} (hs:s.length=64) (hb:b.length=16):slotB (lay s (i % 4*16) b) j=if j % 4=i % 4 then b else slotB s j:=by
 rw [zon,zon]
 split
 ·rename_i e
  rw [e]
  have:=ztK (b:=s) (s:=b) (k:=i % 4*16) (by omega)
  rw [hb] at this
  exact this
 ·rename_i e
  refine zrE (by omega) ?_
  omega
theorem zft {d:Disk} {p p':Plan} (h:∀b:Int,b=2∨b=3→plook d p' b=plook d p b):snaps d p'=snaps d p:=by
 have hg:∀ (m i:Nat) (l:List Snp),m+i≤8→snapsK d p' m i l=snapsK d p m i l:=by
  intro m
  induction m with
  |zero=>intro i l _;rfl
  |succ m ih=>
   intro i l hm
   rw [snapsK,snapsK,h _ (by omega),ih (i+1) _ (by omega)]
 exact hg 8 0 [] (by omega)
theorem zgS {d:Disk} {p:Plan} {i:Int} {s:Snp} (h:(setsnap d p i s).2=0):0≤i∧i<8∧(snpB s).2=true∧(zb8 d p (2+i / 4) (i % 4*16) (snpB s).1).2=0∧setsnap d p i s=zb8 d p (2+i / 4) (i % 4*16) (snpB s).1:=by
 unfold setsnap at h ⊢
 split at h
 ·exact absurd h (by simp)
 rename_i h1
 rw [if_neg h1]
 split at h
 ·exact absurd h (by simp)
 rename_i h2
 rw [if_neg h2]
 exact ⟨by omega,by omega,by simpa using h2,h,rfl⟩
theorem zj3 {d:Disk} {p:Plan} {i:Int} {s:Snp} (hd:DP d p) (h:(setsnap d p i s).2=0) {b:Int} (hb:b<2∨4≤b):plook d (setsnap d p i s).1 b=plook d p b:=by
 obtain ⟨h1,h2,h3,h4,h5⟩:=zgS h
 rw [h5,zfq h4 hd.plen,if_neg (by omega)]
theorem zfZ {d:Disk} {p:Plan} {i:Nat} {s:Snp} (hd:DP d p) (h0:(snaps d p).2=0) (h:(setsnap d p i s).2=0) (hs0:0≤s.id) (hs1:s.id≤4294967295):
  snaps d (setsnap d p i s).1=((snaps d p).1.set i s,0):=by
 obtain ⟨h1,h2,h3,h4,h5⟩:=zgS h
 obtain ⟨b1,b2,b3⟩:=zvB h3 hs0 hs1
 obtain ⟨g1,g2⟩:=zom h0
 obtain ⟨B,hB⟩:∃B,B=(snpB s).1:=⟨_,rfl⟩
 rw [← hB] at b1 b2 b3 h4 h5
 have hlk:=(zi2 h4).1
 have h64:=zcs hd hlk
 have hv:∀j:Nat,j<8→plook d (setsnap d p i s).1 (2+(j / 4:Nat))=if j / 4=i / 4 then (lay (plook d p (2+(j / 4:Nat))).1 (i % 4*16) B,0) else plook d p (2+(j / 4:Nat)):=by
  intro j hj
  rw [h5,zfq h4 hd.plen]
  by_cases e:j / 4=i / 4
  ·rw [if_pos (by omega),if_pos e,show (2:Int)+(i:Int) / 4=2+(j / 4:Nat) by omega,show ((i:Int) % 4*16).toNat=i % 4*16 by omega]
  ·rw [if_neg (by omega),if_neg e]
 have hsl:∀j:Nat,j<8→(plook d (setsnap d p i s).1 (2+(j / 4:Nat))).2=0∧slotB (plook d (setsnap d p i s).1 (2+(j / 4:Nat))).1 j=if j=i then B else slotB (plook d p (2+(j / 4:Nat))).1 j:=by
  intro j hj
  rw [hv j hj]
  by_cases e:j / 4=i / 4
  ·rw [if_pos e]
   have he:(2:Int)+(j / 4:Nat)=2+(i:Int) / 4:=by omega
   refine ⟨rfl,?_⟩
   rw [zsh (by rw [he];exact h64) b1]
   by_cases e2:j=i
   ·rw [if_pos (by omega),if_pos e2]
   ·rw [if_neg (by omega),if_neg e2]
  ·rw [if_neg e,if_neg (by omega)]
   exact ⟨(g1 j hj).1,rfl⟩
 have hz:(snaps d (setsnap d p i s).1).2=0:=by
  refine zlF 8 0 [] (fun j _ hj=>?_)
  obtain ⟨k1,k2⟩:=hsl j (by omega)
  refine ⟨k1,?_⟩
  rw [k2]
  split
  ·exact b3
  ·exact (g1 j (by omega)).2
 obtain ⟨_,k2⟩:=zom hz
 refine Prod.ext ?_ hz
 show (snaps d (setsnap d p i s).1).1=(snaps d p).1.set i s
 rw [k2,g2]
 apply List.ext_getElem?
 intro j
 rw [List.getElem?_set]
 rcases Nat.lt_or_ge j 8 with hj|hj
 ·rw [List.getElem?_map,List.getElem?_map,List.getElem?_range hj,List.length_map,List.length_range]
  simp only [Option.map_some]
  rw [(hsl j hj).2]
  by_cases e:j=i
  ·subst e
   rw [if_pos rfl,if_pos rfl,if_pos hj,b2]
  ·rw [if_neg e,if_neg (fun h=>e h.symm)]
 ·have hne:¬i=j:=by omega
  rw [if_neg hne,List.getElem?_eq_none (by simp;omega),List.getElem?_eq_none (by simp;omega)]
theorem zsi {r:Root} (hk:zH r.l1=true) (h0:0≤r.next) (h1:r.next≤4294967295):rootT (za6 r)=(r,0):=by
 obtain ⟨hk0,hk1⟩:=hostOk_iff.1 hk
 have l1:=zI r.l1.toNat 2
 have l2:=zI r.next.toNat 4
 have l3:=zeA r
 have l4:=zcg (sumOf 0 (zaJ r))
 obtain ⟨Z,hZ⟩:∃Z,za6 r=zaJ r++zen (sumOf 0 (zaJ r))++Z:=by
  unfold za6 padR padS
  rw [if_neg (by rw [List.length_append,l3,l4];decide)]
  exact ⟨_,rfl⟩
 have e1:(za6 r).take 10=zaJ r:=by
  rw [hZ,List.append_assoc,List.take_append_of_le_length (by omega),List.take_of_length_le (by omega)]
 have e2:((za6 r).take 14).drop 10=zen (sumOf 0 (zaJ r)):=by
  rw [hZ,List.take_append_of_le_length (by rw [List.length_append];omega),List.take_of_length_le (by rw [List.length_append];omega),List.drop_append_of_le_length (by omega),List.drop_of_length_le (by omega),List.nil_append]
 have e3:(za6 r).take 4=magicR:=by
  rw [← show ((za6 r).take 10).take 4=(za6 r).take 4 by rw [List.take_take];rfl,e1,zaJ,List.append_assoc,List.take_append_of_le_length (by decide)]
  decide
 have e4:((za6 r).drop 4).take 2=putN r.l1.toNat 2:=by
  have:((za6 r).drop 4).take 2=((zaJ r).drop 4).take 2:=by rw [← e1,List.drop_take,List.take_take];rfl
  rw [this,zaJ,List.append_assoc,List.drop_append_of_le_length (by decide),show magicR.drop 4= [] by decide,List.nil_append,List.take_append_of_le_length (by omega),List.take_of_length_le (by omega)]
 have e5:((za6 r).drop 6).take 4=putN r.next.toNat 4:=by
  have:((za6 r).drop 6).take 4=((zaJ r).drop 6).take 4:=by rw [← e1,List.drop_take,List.take_take];rfl
  have hl:(magicR++putN r.l1.toNat 2).length=6:=by rw [List.length_append,l1];decide
  rw [this,zaJ,List.drop_append_of_le_length (by omega),List.drop_of_length_le (by omega),List.nil_append,List.take_of_length_le (by omega)]
 have hof:zbC (za6 r)=r:=by
  unfold zbC
  rw [e4,e5,zeG,zeG]
  have h2:(256:Nat) ^ 2=65536:=by decide
  have h4:(256:Nat) ^ 4=4294967296:=by decide
  rw [Nat.mod_eq_of_lt (by omega),Nat.mod_eq_of_lt (by omega),Int.toNat_of_nonneg hk0,Int.toNat_of_nonneg h0]
 unfold rootT
 rw [if_neg (fun h=>h e3),e1,e2,if_neg (fun h=>h rfl),hof,if_neg (by rw [hk];simp)]
theorem zgT {p:Plan} {r:Root} (h:(zav p r).2=0):zH r.l1=true∧(pset p 1 (za6 r)).2=0∧zav p r=pset p 1 (za6 r):=by
 unfold zav at h ⊢
 split at h
 ·exact absurd h (by simp)
 rename_i h1
 rw [if_neg h1]
 exact ⟨by simpa using h1,h,rfl⟩
theorem zf0 {d:Disk} {p:Plan} {r:Root} (hd:DP d p) (h:(zav p r).2=0) (b:Int):plook d (zav p r).1 b=if b=1 then (za6 r,0) else plook d p b:=by
 obtain ⟨h1,h2,h3⟩:=zgT h
 rw [h3,ze0 h2 hd.plen]
theorem zia {d:Disk} {p:Plan} {r:Root} (hd:DP d p) (h:(zav p r).2=0) (h0:0≤r.next) (h1:r.next≤4294967295):zi d (zav p r).1=(r,0):=by
 unfold zi
 rw [zf0 hd h,if_pos rfl,if_neg (by simp)]
 exact zsi (zgT h).1 h0 h1
theorem zj4 {d:Disk} {p p':Plan} (h:plook d p' 1=plook d p 1):zi d p'=zi d p:=by
 unfold zi
 rw [h]
structure Made (x:Img) (n:Txt) (i:Nat) (T:Plan×Int×Int) (C S P Q:Plan×Int):Prop where
 whole:x.broken=false
 root:(zi x.disk p0).2=0
 snaps:(snaps x.disk p0).2=0
 named:zar n=true
 other:(Aw.snaps x.disk p0).1.any (fun s=>s.id !=0&&s.name==n)=false
 at_:idxP (fun s=>s.id==0) (Aw.snaps x.disk p0).1 0=i
 next0:0<(zi x.disk p0).1.next
 next1:(zi x.disk p0).1.next<4294967295
 hT:T=rtake x.disk p0 x.geom
 hT2:T.2.2=0
 hC:C=ecopy x.disk T.1 (zi x.disk p0).1.l1 T.2.1
 hC2:C.2=0
 hS:S=share x.disk C.1 (zi x.disk p0).1.l1 1
 hS2:S.2=0
 hP:P=setsnap x.disk S.1 i ⟨(zi x.disk p0).1.next,T.2.1,n⟩
 hP2:P.2=0
 hQ:Q=zav P.1 ⟨(zi x.disk p0).1.l1,(zi x.disk p0).1.next+1⟩
 hQ2:Q.2=0
 img:(zU x n).1=(cdone x Q.1).1
 err:(zU x n).2.2=(cdone x Q.1).2
 num:(cdone x Q.1).2=0→(zU x n).2.1=(zi x.disk p0).1.next
theorem zj5 (x:Img) (n:Txt):((zU x n).1=x∧(zU x n).2.2≠0)∨∃i T C S P Q,Made x n i T C S P Q:=by
 have hr:=(zdh x.disk p0).2.2
 by_cases h1:x.broken=true
 ·left;unfold zU;rw [if_pos h1];exact ⟨rfl,by simp⟩
 by_cases h2:(zi x.disk p0).2≠0
 ·left;unfold zU;rw [if_neg h1,if_pos h2];exact ⟨rfl,h2⟩
 by_cases h3:(snaps x.disk p0).2≠0
 ·left;unfold zU;rw [if_neg h1,if_neg h2,if_pos h3];exact ⟨rfl,h3⟩
 by_cases h4:zar n=false
 ·left;unfold zU;rw [if_neg h1,if_neg h2,if_neg h3,if_pos h4];exact ⟨rfl,by simp⟩
 by_cases h5:(snaps x.disk p0).1.any (fun s=>s.id !=0&&s.name==n)=true
 ·left;unfold zU;rw [if_neg h1,if_neg h2,if_neg h3,if_neg h4,if_pos h5];exact ⟨rfl,by simp⟩
 by_cases h6:idxP (fun s:Snp=>s.id==0) (snaps x.disk p0).1 0<0
 ·left;unfold zU;rw [if_neg h1,if_neg h2,if_neg h3,if_neg h4,if_neg h5,if_pos h6];exact ⟨rfl,by simp⟩
 by_cases h7:(zi x.disk p0).1.next=0∨(zi x.disk p0).1.next=4294967295
 ·left;unfold zU;rw [if_neg h1,if_neg h2,if_neg h3,if_neg h4,if_neg h5,if_neg h6,if_pos h7];exact ⟨rfl,by simp⟩
 obtain ⟨i,hi⟩:∃i:Nat,idxP (fun s:Snp=>s.id==0) (snaps x.disk p0).1 0=i:=⟨(idxP (fun s:Snp=>s.id==0) (snaps x.disk p0).1 0).toNat,by omega⟩
 obtain ⟨T,hT⟩:∃T,T=rtake x.disk p0 x.geom:=⟨_,rfl⟩
 have e0:zU x n=zcR x n (zi x.disk p0).1 i T:=by
  unfold zU
  rw [if_neg h1,if_neg h2,if_neg h3,if_neg h4,if_neg h5,if_neg h6,if_neg h7,hi,← hT]
 by_cases h8:T.2.2≠0
 ·left;rw [e0,zcR,if_pos h8];exact ⟨rfl,h8⟩
 obtain ⟨C,hC⟩:∃C,C=ecopy x.disk T.1 (zi x.disk p0).1.l1 T.2.1:=⟨_,rfl⟩
 rw [zcR,if_neg h8,← hC] at e0
 by_cases h9:C.2≠0
 ·left;rw [e0,zee,if_pos h9];exact ⟨rfl,h9⟩
 obtain ⟨S,hS⟩:∃S,S=share x.disk C.1 (zi x.disk p0).1.l1 1:=⟨_,rfl⟩
 rw [zee,if_neg h9,← hS] at e0
 by_cases h10:S.2≠0
 ·left;rw [e0,zed,if_pos h10];exact ⟨rfl,h10⟩
 obtain ⟨P,hP⟩:∃P,P=setsnap x.disk S.1 i ⟨(zi x.disk p0).1.next,T.2.1,n⟩:=⟨_,rfl⟩
 rw [zed,if_neg h10,← hP] at e0
 by_cases h11:P.2≠0
 ·left;rw [e0,zec,if_pos h11];exact ⟨rfl,h11⟩
 obtain ⟨Q,hQ⟩:∃Q,Q=zav P.1 ⟨(zi x.disk p0).1.l1,(zi x.disk p0).1.next+1⟩:=⟨_,rfl⟩
 rw [zec,if_neg h11,← hQ] at e0
 by_cases h12:Q.2≠0
 ·left;rw [e0,zeb,if_pos h12];exact ⟨rfl,h12⟩
 rw [zeb,if_neg h12] at e0
 refine .inr ⟨i,T,C,S,P,Q,by simpa using h1,by simpa using h2,by simpa using h3,by simpa using h4,by simpa using h5,hi,by omega,by omega,hT,by simpa using h8,hC,by simpa using h9,hS,by simpa using h10,hP,by simpa using h11,hQ,by simpa using h12,?_,?_,fun h=>?_⟩
 ·rw [e0];split<;>rfl
 ·rw [e0]
  split
  ·rfl
  ·rename_i h;simp only;omega
 ·rw [e0,if_neg (by omega)]
theorem zi7 {x:Img} {q:Plan} (hx:ImgF x) (hq:pfit q=true) (h:(cdone x q).2=0) {b:Int} (hb:b<6∨87≤b):plook (cdone x q).1.disk p0 b=plook x.disk q b:=by
 obtain ⟨h1,h2⟩:=zpH h
 rw [h2,zwi]
 exact zlg hx.disk hq h1 hb
theorem Made.view {x:Img} {n:Txt} {i:Nat} {T:Plan×Int×Int} {C S P Q:Plan×Int} (hx:ImgF x) (hm:Made x n i T C S P Q):pfit Q.1=true∧Aw.snaps x.disk Q.1=((Aw.snaps x.disk p0).1.set i ⟨(zi x.disk p0).1.next,T.2.1,n⟩,0)∧zi x.disk Q.1=(⟨(zi x.disk p0).1.l1,(zi x.disk p0).1.next+1⟩,0):=by
 have hn0:=hm.next0
 have hn1:=hm.next1
 have hd0:DP x.disk p0:=⟨hx.disk,zcw⟩
 have hd1:DP x.disk T.1:=by rw [hm.hT];exact hd0.rtake _
 have hd2:DP x.disk C.1:=by rw [hm.hC];exact hd1.ecopy _ _
 have hd3:DP x.disk S.1:=by rw [hm.hS];exact hd2.share _ _
 have hd4:DP x.disk P.1:=by rw [hm.hP];exact hd3.setsnap _ _
 have hd5:pfit Q.1=true:=by rw [hm.hQ];exact zef hd4.p
 have v1:∀b:Int,b<6→plook x.disk S.1 b=plook x.disk p0 b:=by
  intro b hb
  have e1:plook x.disk S.1 b=plook x.disk C.1 b:=by rw [hm.hS];exact zh9 hd2 (by rw [← hm.hS];exact hm.hS2) (by omega)
  have e2:plook x.disk C.1 b=plook x.disk T.1 b:=by
   have hc:=hm.hC2
   rw [hm.hC] at hc ⊢
   obtain ⟨c1,c2,c3,c4,c5,c6,c7⟩:=zpL hc
   have:=hostOk_iff.1 c2
   have hdd:DP x.disk (pset T.1 (96+2*T.2.1) (plook x.disk T.1 (96+2*(zi x.disk p0).1.l1)).1).1:=⟨hd1.d,zcP hd1.p⟩
   rw [c7]
   simp only
   rw [ze0 c6 hdd.plen,if_neg (by omega),ze0 c4 hd1.plen,if_neg (by omega)]
  have e3:plook x.disk T.1 b=plook x.disk p0 b:=by rw [hm.hT];exact zno hd0 (by rw [← hm.hT];exact hm.hT2) (by omega)
  rw [e1,e2,e3]
 have hs1:Aw.snaps x.disk S.1=Aw.snaps x.disk p0:=zft (fun b hb=>v1 b (by omega))
 have hs2:Aw.snaps x.disk P.1=((Aw.snaps x.disk p0).1.set i ⟨(zi x.disk p0).1.next,T.2.1,n⟩,0):=by
  have hp:=hm.hP2
  rw [hm.hP] at hp ⊢
  rw [zfZ hd3 (by rw [hs1];exact hm.snaps) hp (by simp only;omega) (by simp only;omega),hs1]
 have hs3:Aw.snaps x.disk Q.1=Aw.snaps x.disk P.1:=zft (fun b hb=>by
  have hq:=hm.hQ2
  rw [hm.hQ] at hq ⊢
  rw [zf0 hd4 hq,if_neg (by omega)])
 refine ⟨hd5,by rw [hs3,hs2],?_⟩
 have hq:=hm.hQ2
 rw [hm.hQ] at hq ⊢
 exact zia hd4 hq (by simp only;omega) (by simp only;omega)
theorem zlG {x:Img} {n:Txt} (hx:ImgF x) (h:(zU x n).2.2=0):∃ (i:Nat) (k:Int),(zi x.disk p0).2=0∧(snaps x.disk p0).2=0∧0<(zi x.disk p0).1.next∧
  (snaps x.disk p0).1.any (fun s=>s.id !=0&&s.name==n)=false∧idxP (fun s=>s.id==0) (snaps x.disk p0).1 0=i∧
  (zU x n).2.1=(zi x.disk p0).1.next∧(zi (zU x n).1.disk p0).2=0∧snaps (zU x n).1.disk p0=((snaps x.disk p0).1.set i ⟨(zi x.disk p0).1.next,k,n⟩,0):=by
 rcases zj5 x n with ⟨_,h0⟩|⟨i,T,C,S,P,Q,hm⟩
 ·exact absurd h h0
 have he:=hm.err
 rw [h] at he
 obtain ⟨v1,v2,v3⟩:=hm.view hx
 have hal:Alike (cdone x Q.1).1.disk p0 x.disk Q.1:=fun b hb=>zi7 hx v1 he.symm (by omega)
 refine ⟨i,T.2.1,hm.root,hm.snaps,hm.next0,hm.other,hm.at_,hm.num he.symm,?_⟩
 rw [hm.img,hal.root,hal.snaps,v2,v3]
 exact ⟨rfl,rfl⟩
structure Gone (x:Img) (id:Int) (i:Nat) (u:Snp) (S A P:Plan×Int):Prop where
 whole:x.broken=false
 root:(zi x.disk p0).2=0
 snaps:(snaps x.disk p0).2=0
 find:sfind (Aw.snaps x.disk p0).1 id=i
 at_:(Aw.snaps x.disk p0).1[i]?=some u
 hS:S=share x.disk p0 u.l1 (-1)
 hS2:S.2=0
 hA:A=radd x.disk S.1 u.l1 (-1)
 hA2:A.2=0
 hP:P=setsnap x.disk A.1 i snp0
 hP2:P.2=0
 is:zaH x id=cdone x P.1
theorem zvC {d:Disk} (h:(sbeg d).2.2=0):(zi d p0).2=0∧(snaps d p0).2=0∧(sbeg d).2.1=(snaps d p0).1:=by
 unfold sbeg at h ⊢
 simp only at h ⊢
 by_cases hr:(zi d p0).2=0
 ·rw [if_neg (by omega)] at h ⊢
  exact ⟨hr,h,rfl⟩
 ·rw [if_pos hr] at h
  exact absurd h hr
theorem zj6 (x:Img) (id:Int):((zaH x id).1=x∧(zaH x id).2≠0)∨∃i u S A P,Gone x id i u S A P:=by
 by_cases h1:x.broken=true
 ·left;unfold zaH;rw [if_pos h1];exact ⟨rfl,by simp⟩
 by_cases h2:(sbeg x.disk).2.2≠0
 ·left;unfold zaH;rw [if_neg h1,if_pos h2];exact ⟨rfl,h2⟩
 obtain ⟨hr,hs,hbs⟩:=zvC (d:=x.disk) (by simpa using h2)
 by_cases h3:sfind (snaps x.disk p0).1 id<0
 ·left;unfold zaH;rw [if_neg h1,if_neg h2,hbs,if_pos h3];exact ⟨rfl,by simp⟩
 obtain ⟨u,hu,hat,hlt,hJn⟩:=zfV (l:=(snaps x.disk p0).1) (id:=id) (by omega)
 obtain ⟨i,hi⟩:∃i:Nat,i=(sfind (snaps x.disk p0).1 id).toNat:=⟨_,rfl⟩
 rw [← hi] at hu hlt hJn
 obtain ⟨S,hS⟩:∃S,S=share x.disk p0 u.l1 (-1):=⟨_,rfl⟩
 have e0:zaH x id=sdelA x i u.l1 S:=by
  unfold zaH
  rw [if_neg h1,if_neg h2,hbs,if_neg h3,hat,hJn,← hS]
 by_cases h4:S.2≠0
 ·left;rw [e0,sdelA,if_pos h4];exact ⟨rfl,h4⟩
 obtain ⟨A,hA⟩:∃A,A=radd x.disk S.1 u.l1 (-1):=⟨_,rfl⟩
 rw [sdelA,if_neg h4,← hA] at e0
 by_cases h5:A.2≠0
 ·left;rw [e0,sdelB,if_pos h5];exact ⟨rfl,h5⟩
 obtain ⟨P,hP⟩:∃P,P=setsnap x.disk A.1 i snp0:=⟨_,rfl⟩
 rw [sdelB,if_neg h5,← hP] at e0
 by_cases h6:P.2≠0
 ·left;rw [e0,sdelC,if_pos h6];exact ⟨rfl,h6⟩
 rw [sdelC,if_neg h6] at e0
 exact .inr ⟨i,u,S,A,P,by simpa using h1,hr,hs,hJn,hu,hS,by simpa using h4,hA,by simpa using h5,hP,by simpa using h6,e0⟩
theorem Gone.view {x:Img} {id:Int} {i:Nat} {u:Snp} {S A P:Plan×Int} (hx:ImgF x) (hm:Gone x id i u S A P):pfit P.1=true∧Aw.snaps x.disk P.1=((Aw.snaps x.disk p0).1.set i snp0,0)∧zi x.disk P.1=zi x.disk p0:=by
 have hd0:DP x.disk p0:=⟨hx.disk,zcw⟩
 have hd1:DP x.disk S.1:=by rw [hm.hS];exact hd0.share _ _
 have hd2:DP x.disk A.1:=by rw [hm.hA];exact hd1.radd _ _
 have hd3:DP x.disk P.1:=by rw [hm.hP];exact hd2.setsnap _ _
 have v:∀b:Int,b<6→plook x.disk A.1 b=plook x.disk p0 b:=by
  intro b hb
  have e1:plook x.disk A.1 b=plook x.disk S.1 b:=by rw [hm.hA];exact zgu hd1 (by rw [← hm.hA];exact hm.hA2) (by omega)
  have e2:plook x.disk S.1 b=plook x.disk p0 b:=by rw [hm.hS];exact zh9 hd0 (by rw [← hm.hS];exact hm.hS2) (by omega)
  rw [e1,e2]
 have hs1:Aw.snaps x.disk A.1=Aw.snaps x.disk p0:=zft (fun b hb=>v b (by omega))
 have hp:=hm.hP2
 rw [hm.hP] at hp
 refine ⟨hd3.p,?_,?_⟩
 ·rw [hm.hP,zfZ hd2 (by rw [hs1];exact hm.snaps) hp (by decide) (by decide),hs1]
 ·rw [hm.hP]
  exact zj4 (by rw [zj3 hd2 hp (by omega),v 1 (by omega)])
theorem zlH {x:Img} {id:Int} (hx:ImgF x) (h:(zaH x id).2=0):∃i:Nat,(zi x.disk p0).2=0∧(snaps x.disk p0).2=0∧sfind (snaps x.disk p0).1 id=i∧
  (zi (zaH x id).1.disk p0).2=0∧snaps (zaH x id).1.disk p0=((snaps x.disk p0).1.set i snp0,0):=by
 rcases zj6 x id with ⟨_,h0⟩|⟨i,u,S,A,P,hm⟩
 ·exact absurd h h0
 rw [hm.is] at h
 obtain ⟨v1,v2,v3⟩:=hm.view hx
 have hal:Alike (cdone x P.1).1.disk p0 x.disk P.1:=fun b hb=>zi7 hx v1 h (by omega)
 refine ⟨i,hm.root,hm.snaps,hm.find,?_⟩
 rw [hm.is,hal.root,hal.snaps,v2,v3]
 exact ⟨hm.root,rfl⟩
open Go Go.Proofs
theorem zsj {α:Type} {P:α→Bool} {l:List α} {i:Nat} (h:idxP P l 0=i):∃u,l[i]?=some u∧P u=true:=by
 have hg:∀ (l:List α) (n k:Nat),idxP P l n=((n+k:Nat):Int)→∃u,l[k]?=some u∧P u=true:=by
  intro l
  induction l with
  |nil=>intro n k h;simp [idxP] at h;omega
  | cons y l ih=>
   intro n k h
   simp only [idxP] at h
   by_cases e:P y=true
   ·simp only [e,if_true] at h
    have:k=0:=by omega
    subst this
    exact ⟨y,rfl,e⟩
   ·simp only [e,if_false] at h
    cases k with
    |zero=>
     simp only [Bool.false_eq_true,if_false] at h
     rcases zcv P l (n+1) with hb|hb
     ·rw [hb] at h;omega
     ·omega
    |succ k=>
     simp only [Bool.false_eq_true,if_false] at h
     simpa using ih (n+1) k (by rw [h];congr 1;omega)
 exact hg l 0 i (by rw [h,Nat.zero_add])
theorem zsk {l:List Snp} {i:Nat} {u v:Snp} (h:l[i]?=some u):∃A B,l.filter (fun s=>s.id !=0)=A++ [u].filter (fun s=>s.id !=0)++B∧(l.set i v).filter (fun s=>s.id !=0)=A++ [v].filter (fun s=>s.id !=0)++B:=by
 obtain ⟨h1,h2⟩:=zsg h v
 refine ⟨(l.take i).filter (fun s=>s.id !=0),(l.drop (i+1)).filter (fun s=>s.id !=0),?_,?_⟩
 ·conv=>lhs;rw [h1]
  rw [List.filter_append,show u::List.drop (i+1) l= [u]++List.drop (i+1) l from rfl,List.filter_append,List.append_assoc]
 ·rw [h2,List.filter_append,show v::List.drop (i+1) l= [v]++List.drop (i+1) l from rfl,List.filter_append,List.append_assoc]
theorem zg7 {d:Disk} (h:(zi d p0).2=0) (h2:(snaps d p0).2=0):slist d=((snaps d p0).1.filter (fun s=>s.id !=0),0):=by
 unfold slist
 rw [if_neg (by omega),if_neg (by omega)]
theorem zpN {x:Img} {n:Txt} (hx:ImgF x) (h:(zU x n).2.2=0):∃A B v,v.id=(zU x n).2.1∧v.name=n∧(zU x n).2.1=(zi x.disk p0).1.next∧slist x.disk=(A++B,0)∧slist (zU x n).1.disk=(A++v::B,0)∧∀s∈A++B,s.name≠n:=by
 obtain ⟨i,k,h1,h2,h3,h4,h5,h6,h7,h8⟩:=zlG hx h
 obtain ⟨u,hu,hu0⟩:=zsj h5
 obtain ⟨A,B,f1,f2⟩:=zsk (v:=⟨(zi x.disk p0).1.next,k,n⟩) hu
 have e1: [u].filter (fun s=>s.id !=0)= []:=by
  have:(u.id !=0)=false:=by simpa using hu0
  simp [List.filter,this]
 have e2: [(⟨(zi x.disk p0).1.next,k,n⟩:Snp)].filter (fun s=>s.id !=0)= [⟨(zi x.disk p0).1.next,k,n⟩]:=by
  have:((zi x.disk p0).1.next !=0)=true:=by simp;omega
  simp [List.filter,this]
 rw [e1,List.append_nil] at f1
 rw [e2] at f2
 refine ⟨A,B,⟨(zi x.disk p0).1.next,k,n⟩,h6.symm,rfl,h6,by rw [zg7 h1 h2,f1],by rw [zg7 h7 (by rw [h8]),h8];simp only;rw [f2];simp,?_⟩
 intro s hs
 rw [← f1,List.mem_filter] at hs
 have:=List.any_eq_false.1 h4 s hs.1
 rintro rfl
 simp [hs.2] at this
theorem zj7 {x:Img} {id:Int} (hx:ImgF x) (h:(zaH x id).2=0):(slist (zaH x id).1.disk).2=0∧(slist x.disk).1.length=(slist (zaH x id).1.disk).1.length+1:=by
 obtain ⟨i,h1,h2,h3,h4,h5⟩:=zlH hx h
 obtain ⟨u,hu,hu0⟩:=zsj h3
 obtain ⟨A,B,f1,f2⟩:=zsk (v:=snp0) hu
 have e1: [u].filter (fun s=>s.id !=0)= [u]:=by
  have:(u.id !=0)=true:=by
   simp only [Bool.and_eq_true,beq_iff_eq,bne_iff_ne,ne_eq] at hu0
   simp [hu0.2,hu0.1]
  simp [List.filter,this]
 have e2: [snp0].filter (fun s=>s.id !=0)= []:=by decide
 rw [zg7 h1 h2,zg7 h4 (by rw [h5]),h5]
 simp only
 rw [f1,f2,e1,e2]
 simp
 omega
end Go.Aw
