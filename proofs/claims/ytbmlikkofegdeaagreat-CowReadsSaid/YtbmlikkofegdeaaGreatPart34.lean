/-
 What first tables have behind a write: the law's own functions.
-/
import Derived.Test.YtbmlikkofegdeaaGreatPart33
import Derived.Test.YtbmlikkofegdeaaGreatPart17
import Derived.Test.YtbmlikkofegdeaaGreatPart26
import Derived.Test.YtbmlikkofegdeaaGreatPart29
set_option maxRecDepth 100000
set_option maxHeartbeats 2000000
set_option linter.unusedSimpArgs false
set_option linter.unusedVariables false
namespace Go.Aw
open Go Go.Proofs
def vcn (a:List Int):List AV:=((cnts 256 a).map fun n=>D.int .i64 n).map AV.d
@[go_sem] theorem vcn_ids (a:List Int):AV.idsL (vcn a)= []:=zbi _
@[go_sem] theorem vcn_le (a:List Int):AV.leL (vcn a) (vcn a):=AV.leL_refl _
theorem zl1 (a:List Int) {k:Nat} (h:k<256):(vcn a).getD (k*1) AV.any= .d (.int .i64 ((a.count (k:Int):Nat):Int)):=by
 rw [Nat.mul_one,List.getD_eq_getElem?_getD,vcn,List.getElem?_map,List.getElem?_map,zec a h]
 rfl
theorem zpa (a:List Int) {k:Nat} (h:k<256):putL (vcn a) (k*1) [.d (.int .i64 (((a.count (k:Int):Nat):Int)+1))]=vcn (a++ [(k:Int)]):=by
 rw [Nat.mul_one,vcn,vcn,← zqL a h,List.map_set,List.map_set]
 rfl
theorem zqP {a b:List Int} (h:a.Perm b):vcn a=vcn b:=by rw [vcn,vcn,zoZ h]
theorem zla (a:List Int):(vcn a).length=256:=by simp [vcn,zfZ]
theorem zpb {a:List Int} {k:Int} {m:Nat} (h:a.length≤m):a.count k≤m:=Nat.le_trans List.count_le_length h
theorem zjW {d:Disk} {p:Plan} :∀ (m:Nat) (k:Int) (l:List Int),(rallK d p m k l).1.length≤l.length+m
 |0,k,l=>Nat.le_refl _
 | m+1,k,l=>by
  rw [rallK]
  split
  ·exact Nat.zero_le _
  ·have:=zjW (d:=d) (p:=p) m (k+1) (l++ [(rget d p k).1])
   simp only [List.length_append,List.length_singleton] at this
   omega
theorem zsU (d:Disk) (l:List Int) (hp:DiskF d∧l.length≤9∧0<l.length):AC 18 [diskA d,.d (.sl 1 (l.map intD))] (.d (.bool (ctd d l))):=by
 obtain ⟨h,hl,hl0⟩:=hp
 refine fbod Tryz.func18 Tryz.ntmps18 (fun base=>?_)
 have hdp:DP d p0:=⟨h,zcZ⟩
 obtain ⟨v,hv⟩:∃v,v=ctd d l:=⟨_,rfl⟩
 rw [← hv]
 have hz:vcn []=List.replicate 256 (AV.d (.int .i64 0)):=rfl
 simp only [List.reduceReplicate] at hz
 refine' walkW hz.symm (za z6 <| za zaK <| zb _)
 refine zC (fun q: { q:Nat×List Int // q.1≤l.length∧q.2.length≤69*q.1∧ctJ d (l.headD 0) 0 l []=ctJ d (l.headD 0) q.1 (l.drop q.1) q.2 } =>⟨[(17,true,.d (.sl 1 (l.map intD))),(18,true,.d (.int .i64 l.length)),(1,true,.d (.sl 1 (l.map intD))),(2,true,.vp 0 0),(5,true,.vp 1 0),(19,true,.d (.int .i64 q.1.1))],[(1,.var (vcn q.1.2)),(0,(.var [.d (.str d.data),.d (.sl 2 (d.cache.map putD)),.d (.int .i64 d.fuse),.d (.bool d.off),.d (.sl 1 (d.bad.map intD))]))],some []⟩) (fun q=>l.length - q.1.1) ⟨(0,[]),Nat.zero_le _,Nat.zero_le _,rfl⟩ le0 (fun q=>?_)
 obtain ⟨⟨i,a⟩,hi,hal,hk⟩:=q
 simp only at hi hal hk ⊢
 rcases zas intD l i hi with ⟨t,hq,hlt,hcmp,hrow,hdr,htk⟩|⟨hend,hcmp⟩
 ·simp only [intD] at hrow
  have hwi:=zG (i:=i) (by omega)
  rw [hdr,ctJ] at hk
  obtain ⟨W,hW⟩:∃W,W=reach d p0 t:=⟨_,rfl⟩
  rw [← hW] at hk
  have hWr:∀y∈W.1,0≤y∧y<256:=by rw [hW];exact zjK
  have hWl:W.1.length≤68:=by rw [hW];exact zo0
  have hro0:(l.map intD).getD 0 []= [.int .i64 (l.headD 0)]:=by
   obtain _|⟨x,r⟩:=l
   ·simp at hl0
   ·rfl
  cases hbad:(W.2 !=0||decide (t<0)||decide (256≤t)||(decide (0<(i:Int))&&(t==l.headD 0))) with
  | true=>
   refine' walkW (zdA hcmp hrow hro0 hW.symm hbad) (za z6 <| za zaK <| zb _)
   ·rw [hc]
    rename_i h0
    rw [h0]
    rfl
   rw [hv,ctd,hk]
   simp only [Bool.or_eq_true,Bool.and_eq_true,decide_eq_true_eq,bne_iff_ne,beq_iff_eq] at hbad
   split
   ·rfl
   ·rename_i A hA
    exfalso
    rcases hbad with ((h|h)|h)|h
    ·rw [if_pos h] at hA;cases hA
    ·rw [if_pos h] at hA;split at hA<;>cases hA
    ·rw [if_pos h] at hA;split at hA<;>first|cases hA|(split at hA<;>cases hA)
    ·rw [if_pos (show 0<i∧t=l.headD 0 from ⟨by omega,h.2⟩)] at hA;split at hA<;>first|cases hA|(split at hA<;>first|cases hA|(split at hA<;>cases hA))
  | false=>
   have hb2:=hbad
   simp only [Bool.or_eq_false_iff,Bool.and_eq_false_iff,decide_eq_false_iff_not,bne_eq_false_iff_eq,beq_eq_false_iff_ne] at hb2
   obtain ⟨⟨⟨b1,b2⟩,b3⟩,b4⟩:=hb2
   rw [if_neg (by simpa using b1),if_neg b2,if_neg b3,if_neg (by rintro ⟨x,y⟩;rcases b4 with b4|b4;omega;exact b4 y)] at hk
   obtain ⟨k,rfl⟩:∃k:Nat,t=k:=⟨t.toNat,by omega⟩
   have hkl:k<256:=by omega
   have hdec:(decide (0≤(k:Int))&&decide ((k:Int)<256))=true:=by
    rw [Bool.and_eq_true,decide_eq_true_eq,decide_eq_true_eq];omega
   have hr1:=zl1 a hkl
   have hs1:=zpa a hkl
   have hcl:=zpb (k:=(k:Int)) hal
   have hw1:IntKind.i64.wrap (((a.count (k:Int):Nat):Int)+1)=((a.count (k:Int):Nat):Int)+1:=zi (by omega) (by omega)
   have hl1:=zla a
   refine' walkW (zY hcmp hrow hro0 hW.symm hbad (zY hdec natC hr1 hs1 hw1 hl1)) (za z6 <| za zaK <| zb _)
   ·rw [hc]
    rename_i h0
    rw [h0]
    rfl
   refine zC (fun q: { j:Nat // j≤W.1.length } =>⟨[(17,true,.d (.sl 1 (l.map intD))),(18,true,.d (.int .i64 l.length)),(1,true,.d (.sl 1 (l.map intD))),(2,true,.vp 0 0),(5,true,.vp 1 0),(19,true,.d (.int .i64 i)),(57,true,.d (.sl 1 (W.1.map intD))),(58,true,.d (.int .i64 W.1.length)),(59,true,.d (.int .i64 q.1))],[(1,.var (vcn (a++ [(k:Int)]++W.1.take q.1))),(0,(.var [.d (.str d.data),.d (.sl 2 (d.cache.map putD)),.d (.int .i64 d.fuse),.d (.bool d.off),.d (.sl 1 (d.bad.map intD))]))],some []⟩) (fun q=>W.1.length - q.1) ⟨0,Nat.zero_le _⟩ (by simp only [AS.le,leT,leH,zh,AsgK,AV.le,AV.leL,AObj.le,inH,idsT,idsH,AV.ids,AV.idsL,AV.idsR,AObj.ids,lk,hget,go_sem,aeq,aeq.aeqF,simprocAttr,List.take_zero,List.append_nil]) (fun q=>?_)
   obtain ⟨j,hj⟩:=q
   simp only at hj ⊢
   rcases zas intD W.1 j hj with ⟨y,hqy,hlty,hcmpy,hrowy,hdry,htky⟩|⟨hendy,hcmpy⟩
   ·simp only [intD] at hrowy
    have hwj:=zG (i:=j) (by omega)
    have hyr:=hWr y (List.mem_of_getElem? hqy)
    obtain ⟨m,rfl⟩:∃m:Nat,y=m:=⟨y.toNat,by omega⟩
    have hml:m<256:=by omega
    obtain ⟨A,hA⟩:∃A,A=a++ [(k:Int)]++W.1.take j:=⟨_,rfl⟩
    have hAl:A.length≤69*i+69:=by rw [hA];simp only [List.length_append,List.length_take,List.length_singleton];omega
    have hdec2:(decide (0≤(m:Int))&&decide ((m:Int)<256))=true:=by
     rw [Bool.and_eq_true,decide_eq_true_eq,decide_eq_true_eq];omega
    have hr2:=zl1 A hml
    have hs2:=zpa A hml
    have hcl2:=zpb (k:=(m:Int)) hAl
    have hw2:IntKind.i64.wrap (((A.count (m:Int):Nat):Int)+1)=((A.count (m:Int):Nat):Int)+1:=zi (by omega) (by omega)
    have hl2:=zla A
    have hA2:A++ [(m:Int)]=a++ [(k:Int)]++W.1.take (j+1):=by rw [hA,htky,List.append_assoc]
    rw [← hA]
    refine' walkW (zY hcmpy hrowy hdec2 natC hr2 (zN hs2 hw2 hl2)) (za z6 <| za zaK <| zb _)
    exact ⟨⟨j+1,by omega⟩,by rw [hA2];simp only [AS.le,leT,leH,zh,AsgK,AV.le,AV.leL,AObj.le,inH,idsT,idsH,AV.ids,AV.idsL,AV.idsR,AObj.ids,lk,hget,go_sem,aeq,aeq.aeqF,simprocAttr,hwj],by simp;omega⟩
   ·refine' walkW hcmpy (za z6 <| za zaK <| zb _)
    have hper:vcn (a++ [(k:Int)]++W.1.take j)=vcn (a++(W.1++ [(k:Int)])):=zqP (by rw [hendy,List.take_length,List.append_assoc];exact List.Perm.append_left a List.perm_append_comm)
    rw [hper]
    exact ⟨⟨(i+1,a++(W.1++ [(k:Int)])),by omega,by simp only [List.length_append,List.length_singleton];omega,hk⟩,lew,by simp;omega⟩
 ·rw [hend,List.drop_length,ctJ] at hk
  have hv2:v=ctE d l a:=by rw [hv,ctd,hk]
  have hrg:=(zo6 l 0 [] a hk).1
  obtain ⟨H,hH⟩:∃H,H=rall d p0 256:=⟨_,rfl⟩
  unfold ctE at hv2
  rw [← hH] at hv2
  have hHl:H.1.length≤256:=by
   rw [hH]
   exact Nat.le_trans (zjW _ _ _) (by simp)
  have hl1:=zla a
  refine' walkW (zE hcmp hH.symm) (za z6 <| za zaK <| zb _)
  refine zC (fun q: { j:Nat // j≤H.1.length∧∀k<j,¬H.1.getD k 0<(cnts 256 a).getD k 0 } =>⟨[(1,true,.d (.sl 1 (l.map intD))),(12,true,.d (.sl 1 (H.1.map intD))),(13,true,.d (.int .i64 H.2)),(2,true,.vp 0 0),(5,true,.vp 1 0),(76,true,.d (.sl 1 (H.1.map intD))),(77,true,.d (.int .i64 H.1.length)),(78,true,.d (.int .i64 q.1))],[(1,.var (vcn a)),(0,(.var [.d (.str d.data),.d (.sl 2 (d.cache.map putD)),.d (.int .i64 d.fuse),.d (.bool d.off),.d (.sl 1 (d.bad.map intD))]))],some []⟩) (fun q=>H.1.length - q.1) ⟨0,Nat.zero_le _,fun k hk=>absurd hk (Nat.not_lt_zero _)⟩ le0 (fun q=>?_)
  obtain ⟨j,hj,hjn⟩:=q
  simp only at hj hjn ⊢
  rcases zas intD H.1 j hj with ⟨y,hqy,hlty,hcmpy,hrowy,hdry,htky⟩|⟨hendy,hcmpy⟩
  ·simp only [intD] at hrowy
   have hwj:=zG (i:=j) (by omega)
   have hjl:j<256:=by omega
   have hdec2:(decide (0≤(j:Int))&&decide ((j:Int)<256))=true:=by
    rw [Bool.and_eq_true,decide_eq_true_eq,decide_eq_true_eq];omega
   have hr2:=zl1 a hjl
   have hg1:H.1.getD j 0=y:=by rw [List.getD_eq_getElem?_getD,hqy];rfl
   have hg2:(cnts 256 a).getD j 0=((a.count (j:Int):Nat):Int):=by rw [List.getD_eq_getElem?_getD,zec a hjl];rfl
   refine' walkW (zY hcmpy hrowy hdec2 natC hr2 hl1) (za z6 <| za zaK <| zb _)
   ·rw [hv2,if_pos (List.any_eq_true.2 ⟨j,List.mem_range.2 hlty,by rw [hg1,hg2];exact hc⟩)]
   ·refine ⟨⟨j+1,by omega,fun k hk2=>?_⟩,by simp only [AS.le,leT,leH,zh,AsgK,AV.le,AV.leL,AObj.le,inH,idsT,idsH,AV.ids,AV.idsL,AV.idsR,AObj.ids,lk,hget,go_sem,aeq,aeq.aeqF,simprocAttr,hwj],by simp;omega⟩
    by_cases e:k=j
    ·subst e
     rw [hg1,hg2]
     exact of_decide_eq_false hc
    ·exact hjn k (by omega)
  ·have hno:((List.range H.1.length).any fun k=>decide (H.1.getD k 0<(cnts 256 a).getD k 0))=false:=by
    rw [List.any_eq_false]
    intro k hk2
    have:=hjn k (by have:=List.mem_range.1 hk2;omega)
    simpa using this
   rw [hno,if_neg (by decide)] at hv2
   refine' walkW hcmpy (za z6 <| za zaK <| zb _)
   refine zC (fun q: { j:Nat // j≤l.length∧∀t∈l.take j,(cnts 256 a).getD t.toNat 0=1 } =>⟨[(12,true,.d (.sl 1 (H.1.map intD))),(13,true,.d (.int .i64 H.2)),(2,true,.vp 0 0),(5,true,.vp 1 0),(90,true,.d (.sl 1 (l.map intD))),(91,true,.d (.int .i64 l.length)),(92,true,.d (.int .i64 q.1))],[(1,.var (vcn a)),(0,(.var [.d (.str d.data),.d (.sl 2 (d.cache.map putD)),.d (.int .i64 d.fuse),.d (.bool d.off),.d (.sl 1 (d.bad.map intD))]))],some []⟩) (fun q=>l.length - q.1) ⟨0,Nat.zero_le _,fun t ht=>by simp at ht⟩ le0 (fun q=>?_)
   obtain ⟨n,hn,hnn⟩:=q
   simp only at hn hnn ⊢
   rcases zas intD l n hn with ⟨y,hqz,hltz,hcmpz,hrowz,hdrz,htkz⟩|⟨hendz,hcmpz⟩
   ·simp only [intD] at hrowz
    have hwj:=zG (i:=n) (by omega)
    have hym:=List.mem_of_getElem? hqz
    obtain ⟨y0,y1,_⟩:=hrg y hym
    obtain ⟨m,rfl⟩:∃m:Nat,y=m:=⟨y.toNat,by omega⟩
    have hml:m<256:=by omega
    have hdec2:(decide (0≤(m:Int))&&decide ((m:Int)<256))=true:=by
     rw [Bool.and_eq_true,decide_eq_true_eq,decide_eq_true_eq];omega
    have hr2:=zl1 a hml
    have hg2:(cnts 256 a).getD m 0=((a.count (m:Int):Nat):Int):=by rw [List.getD_eq_getElem?_getD,zec a hml];rfl
    refine' walkW (zY hcmpz hrowz hdec2 natC hr2 hl1) (za z6 <| za zaK <| zb _)
    ·rw [hv2,if_pos (List.any_eq_true.2 ⟨(m:Int),hym,by rw [Int.toNat_natCast,hg2];exact hc⟩)]
    ·refine ⟨⟨n+1,by omega,fun t ht=>?_⟩,by simp only [AS.le,leT,leH,zh,AsgK,AV.le,AV.leL,AObj.le,inH,idsT,idsH,AV.ids,AV.idsL,AV.idsR,AObj.ids,lk,hget,go_sem,aeq,aeq.aeqF,simprocAttr,hwj],by simp;omega⟩
     rw [htkz] at ht
     rcases List.mem_append.1 ht with ht|ht
     ·exact hnn t ht
     ·rw [List.mem_singleton] at ht
      subst ht
      rw [Int.toNat_natCast,hg2]
      simpa using hc
   ·have hno2:(l.any fun t=>(cnts 256 a).getD t.toNat 0 !=1)=false:=by
     rw [List.any_eq_false]
     intro t ht
     have:=hnn t (by rw [hendz,List.take_length];exact ht)
     simpa using this
    rw [hno2,if_neg (by decide)] at hv2
    refine' walkW hcmpz (za z6 <| za zaK <| zb _)
    rw [hv2]
@[go_sem] noncomputable def zcM:Ent Tryz.prog 18:= .m2 zv (slT 1 intD zbP) zsU
theorem zpc (d:Disk) (t n:Int) (hp:DiskF d∧0≤n∧n≤64):AC 19 [diskA d,.d (.int .i64 t),.d (.int .i64 n)] (.tup [.d (.sl 1 ((gst d t n).1.map strD)),.d (.bool (gst d t n).2)]):=by
 obtain ⟨h,hn,hm⟩:=hp
 obtain ⟨m,rfl⟩:∃m:Nat,n=m:=⟨n.toNat,by omega⟩
 obtain ⟨G,hG⟩:∃G,G=gst d t m:=⟨_,rfl⟩
 have hG2:G=gstK d t m 0 []:=by rw [hG,gst,Int.toNat_natCast]
 rw [← hG]
 refine fbod Tryz.func19 Tryz.ntmps19 (fun base=>?_)
 refine' zhE (zbS 3) fx (za zdS <| zb _)
 refine zdf 8 1 rfl ?_
 simp only [fresh,top,hget, ↓reduceIte]
 refine zC (fun q: { q:Nat×List Txt // q.1≤m∧q.2.length=q.1∧gstK d t m 0 []=gstK d t (m - q.1) q.1 q.2 } =>⟨[(1,true,.d (.int .i64 t)),(3,true,.vp 0 0),(8,true,.osl 1 1 q.1.2.length 0 q.1.2.length),(12,true,.d (.int .i64 m)),(13,true,.d (.int .i64 q.1.1))],[(1,.arr 1 (q.1.2.map strD)),(0,(.var [.d (.str d.data),.d (.sl 2 (d.cache.map putD)),.d (.int .i64 d.fuse),.d (.bool d.off),.d (.sl 1 (d.bad.map intD))]))],some []⟩) (fun q=>m - q.1.1) ⟨(0,[]),Nat.zero_le _,rfl,rfl⟩ le1 (fun q=>?_)
 obtain ⟨⟨i,l⟩,hi,hlen,hl⟩:=q
 simp only at hi hlen hl ⊢
 rcases Nat.lt_or_ge i m with him|him
 ·have hcmp:decide ((i:Int)<(m:Int))=true:=decide_eq_true (by omega)
  have hwi:=zG (i:=i) (by omega)
  obtain ⟨j,hj⟩:∃j,m - i=j+1:=⟨m - i - 1,by omega⟩
  rw [hj,gstK] at hl
  refine' walkW hcmp (za zdS <| zb _)
  ·rw [hl,if_pos (bneP hc)] at hG2
   rw [hG2]
   rfl
  ·rw [if_neg (bneN hc)] at hl
   exact ⟨⟨(i+1,l++ [(cread d t i).1]),by omega,by simp [hlen],by rw [hl,show m - (i+1)=j by omega];rfl⟩,by simp only [List.map_append,List.length_append,List.length_singleton];simp only [AS.le,leT,leH,zh,AsgK,AV.le,AV.leL,AObj.le,inH,idsT,idsH,AV.ids,AV.idsL,AV.idsR,AObj.ids,lk,hget,go_sem,aeq,aeq.aeqF,simprocAttr,hwi]<;>and_intros<;>rfl,by simp;omega⟩
 ·have hcmp:decide ((i:Int)<(m:Int))=false:=decide_eq_false (by omega)
  rw [show m - i=0 by omega,gstK] at hl
  refine' walkW hcmp (za zdS <| zb _)
  rw [hG2,hl]
@[go_sem] noncomputable def zaZ:Ent Tryz.prog 19:= .m3 zv (intT .i64) (intT .i64) zpc
theorem zjX (x:Img) (guest:Int) (off:Int) (s:Txt) (other:Int) (h:ImgOk x) (hs:s.length≤9223372036854775807):ACall Tryz.prog 4 0 [imgA x,.d (.int .i64 guest),.d (.int .i64 off),.d (.str s),.d (.int .i64 other)] [] (fun r _=>r= .d (.bool true)):=by
 refine fbod Tryz.func4 Tryz.ntmps4 (fun base=>?_)
 cases hg:cgood x with
 |false=>refine' walkW hg (za zbq <| za zaX <| za zaU <| za zcM <| za zaZ <| za zad <| za zaG <| za zaD <| zb _)
 |true=>
 have hF:=zr6 h hg
 have hd:=hF.disk
 have hdp:DP x.disk p0:=⟨hd,zcZ⟩
 have hfit:ifit x=true∧x.maps.length≤2:=by
  unfold cgood at hg
  simp only [Bool.and_eq_true,decide_eq_true_eq] at hg
  exact ⟨hg.2,by omega⟩
 obtain ⟨hfit,hm2⟩:=hfit
 have hm:x.maps.length≤5000:=by omega
 have hgeo:1≤x.geom.guest:=by
  have h2:=hfit
  unfold ifit at h2
  simp only [Bool.and_eq_true] at h2
  have h3:=h2.1.1.1.1.1
  rw [geo_iff] at h3
  omega
 have hgm:=hF.guest
 have hw:=hF.write guest off s
 have hwf:=(IF.write hF guest off s).fit hw hfit
 have hpl:=fun ha hb hc hd he=>zhj (g:=guest) (off:=off) (o:=other) (s:=s) hF rfl (by omega) ha hb hc hd he
 have hgo:=fun hz=>zhY (d:=x.disk) (t:=(zk x.disk p0).1.l1) (n:=x.geom.guest) (by omega) hz
 have hgo2:=fun hz=>zhY (d:=x.disk) (t:=other) (n:=x.geom.guest) (by omega) hz
 obtain ⟨R,hR⟩:∃R,R=zk x.disk p0:=⟨_,rfl⟩
 rw [← hR] at hpl hgo
 obtain ⟨L,hL⟩:∃L,L= [R.1.l1,other]:=⟨_,rfl⟩
 have hsl: [[D.int .i64 R.1.l1],[D.int .i64 other]]=L.map intD:=by rw [hL];rfl
 have hL1:L.length≤9:=by rw [hL];simp
 have hL2:0<L.length:=by rw [hL];simp
 have hL3:(2=L.length)=True:=eq_true (by rw [hL];rfl)
 have hL4:List.take 2 (L.map intD)=L.map intD:=by rw [hL];rfl
 rw [← hL] at hpl
 have hx0:0≤x.geom.guest:=by omega
 cases hr0:(R.2 !=0) with
 |true=>refine' walkW (zN hg hR.symm hr0) (za zbq <| za zaX <| za zaU <| za zcM <| za zaZ <| za zad <| za zaG <| za zaD <| zb _)
 |false=>
 cases hr:ctd x.disk L with
 |false=>refine' walkW (zY hg hR.symm hsl hL3 @if_true.{1} (zN hL4 hr0 hr)) (za zbq <| za zaX <| za zaU <| za zcM <| za zaZ <| za zad <| za zaG <| za zaD <| zb _)
 |true=>
 have hr1:R.2=0:=by simpa using hr0
 obtain ⟨A,hA⟩:∃A,A=gst x.disk R.1.l1 x.geom.guest:=⟨_,rfl⟩
 obtain ⟨B,hB⟩:∃B,B=gst x.disk other x.geom.guest:=⟨_,rfl⟩
 obtain ⟨Y,hY⟩:∃Y,Y=zab x guest off s:=⟨_,rfl⟩
 rw [← hA] at hgo
 rw [← hB] at hgo2
 rw [← hY] at hw hwf
 rw [← hA,← hB,← hY] at hpl
 have hwo:=hw.ok
 have hwd:=hw.disk
 cases ht:(!A.2|| !B.2||Y.2 !=0) with
 |true=>refine' walkW (zY hg hR.symm hsl hL3 @if_true.{1} (zY hL4 hr0 hr hA.symm hB.symm (zN hY.symm ht hwf))) (za zbq <| za zaX <| za zaU <| za zcM <| za zaZ <| za zad <| za zaG <| za zaD <| zb _)
 |false=>
 have ht2:=ht
 simp only [Bool.or_eq_false_iff,bne_eq_false_iff_eq,Bool.not_eq_false'] at ht2
 obtain ⟨⟨t1,t2⟩,t3⟩:=ht2
 obtain ⟨p1,p2,p3⟩:=hpl hr1 hr t1 t2 t3
 obtain ⟨a1,a2,a3⟩:=hgo t1
 obtain ⟨b1,b2,b3⟩:=hgo2 t2
 obtain ⟨n,hn⟩:∃n:Nat,x.geom.guest=n:=⟨x.geom.guest.toNat,by omega⟩
 have hAl:(A.1.length:Int)=n:=by omega
 obtain ⟨C,hC⟩:∃C,C=gst Y.1.disk R.1.l1 x.geom.guest:=⟨_,rfl⟩
 rw [← hC] at p1 p3
 obtain ⟨_,c2,_⟩:=zhY (d:=Y.1.disk) (t:=R.1.l1) (n:=x.geom.guest) (by omega) (by rw [← hC];exact p1)
 rw [← hC] at c2
 have hz:(!C.2|| !B.2)=false:=by rw [p1,t2];rfl
 refine' walkW (zY hg hR.symm hsl hL3 @if_true.{1} (zY hL4 hr0 hr hA.symm hB.symm (zdA hY.symm ht hC.symm p2 hz))) (za zbq <| za zaX <| za zaU <| za zcM <| za zaZ <| za zad <| za zaG <| za zaD <| zb _)
 refine zC (fun q: { i:Nat // i≤n } =>⟨[(1,true,.d (.int .i64 guest)),(2,true,.d (.int .i64 off)),(3,true,.d (.str s)),(13,true,.d (.sl 1 (A.1.map strD))),(15,true,.d (.sl 1 (B.1.map strD))),(17,true,.vp 3 0),(19,true,.d (.sl 1 (C.1.map strD))),(20,true,.d (.sl 1 (B.1.map strD))),(119,true,.d (.int .i64 n)),(120,true,.d (.int .i64 q.1))],[(3,.var (imgV Y.1))],some []⟩) (fun q=>n - q.1) ⟨0,Nat.zero_le _⟩ (by simp only [AS.le,leT,leH,zh,AsgK,AV.le,AV.leL,AObj.le,inH,idsT,idsH,AV.ids,AV.idsL,AV.idsR,AObj.ids,lk,hget,go_sem,aeq,aeq.aeqF,simprocAttr,hAl]) (fun q=>?_)
 obtain ⟨i,hi⟩:=q
 simp only at hi ⊢
 rcases Nat.lt_or_ge i n with hin|hin
 ·have hcmp:decide ((i:Int)<(n:Int))=true:=decide_eq_true (by omega)
  have hwi:=zG (i:=i) (by omega)
  have qa:=a3 i (by omega)
  have qb:=b3 i (by omega)
  have qc:=p3 i (by omega)
  have hra:=zcD (g:=strD) qa
  have hrb:=zcD (g:=strD) qb
  have hrc:=zcD (g:=strD) qc
  have la:=zeL hd.puts (a1 i (by omega) (by omega))
  simp only [strD] at hra hrb hrc
  by_cases e:(i:Int)=guest
  ·have he:((i:Int)==guest)=true:=by simpa using e
   rw [if_pos e] at hrc
   have hl2:(cread x.disk R.1.l1 i).1.length≤9223372036854775807:=by omega
   refine' walkW (zY hcmp hra hrb hrc he (zE @bne_self_eq_false.{0} natC)) (za zbq <| za zaX <| za zaU <| za zcM <| za zaZ <| za zad <| za zaG <| za zaD <| zb _)
   exact ⟨⟨i+1,by omega⟩,lew,by simp;omega⟩
  ·have he:((i:Int)==guest)=false:=by simpa using e
   rw [if_neg e] at hrc
   refine' walkW (zY hcmp hra hrb hrc he (zE @bne_self_eq_false.{0} natC)) (za zbq <| za zaX <| za zaU <| za zcM <| za zaZ <| za zad <| za zaG <| za zaD <| zb _)
   exact ⟨⟨i+1,by omega⟩,lew,by simp;omega⟩
 ·have hcmp:decide ((i:Int)<(n:Int))=false:=decide_eq_false (by omega)
  refine' walkW (zE hcmp hwf) (za zbq <| za zaX <| za zaU <| za zcM <| za zaZ <| za zad <| za zaG <| za zaD <| zb _)
end Go.Aw
