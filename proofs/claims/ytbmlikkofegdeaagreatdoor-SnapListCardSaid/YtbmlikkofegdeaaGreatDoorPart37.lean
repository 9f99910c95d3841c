/-
 Snapshots: the law SnapList.
-/
import Derived.Test.YtbmlikkofegdeaaGreatDoorPart36
import Derived.Test.YtbmlikkofegdeaaGreatDoorPart17
set_option maxRecDepth 100000
set_option maxHeartbeats 2000000
set_option linter.unusedSimpArgs false
set_option linter.unusedVariables false
namespace Go.Aw
open Go Go.Proofs
theorem zlI (x:Img) (name:Txt) (h:ImgOk x) (hn:name.length≤9223372036854775807):ACall Tryz.prog 4 0 [imgA x,.d (.str name)] [] (fun r _=>r= .d (.bool true)):=by
 refine fbod Tryz.func4 Tryz.ntmps4 (fun base=>?_)
 cases hg:agood x with
 |false=>refine' walkW hg (za zaj <| za z6 <| za z2 <| za zQ <| za zab <| za zaC <| za zu <| zb _)
 |true=>
 obtain ⟨hF,hh⟩:=zse h hg
 have hdp:DP x.disk p0:=⟨hF.disk,zcw⟩
 have hLl:(slist x.disk).1.length≤8:=by
  rw [zfU]
  have:=zdw x.disk
  split
  ·exact Nat.zero_le _
  ·exact Nat.le_trans (List.length_filter_le ..) this
 obtain ⟨L,hL⟩:∃L,L=slist x.disk:=⟨_,rfl⟩
 obtain ⟨R,hR⟩:∃R,R=zi x.disk p0:=⟨_,rfl⟩
 obtain ⟨Y,hY⟩:∃Y,Y=zU x name:=⟨_,rfl⟩
 rw [← hL] at hLl
 refine' walkW (z8 hg hL.symm hR.symm hY.symm) (za zaj <| za z6 <| za z2 <| za zQ <| za zab <| za zaC <| za zu <| zb _)
 refine zk (fun q: { i:Nat // i≤L.1.length∧∀s∈L.1.take i,s.id<R.1.next } =>⟨[(1,true,.d (.str name)),(2,true,.vp 0 0),(5,true,.d (.sl 3 (L.1.map snpD))),(6,true,.d (.int .i64 L.2)),(7,true,.vp 1 0),(8,true,.d (.int .i64 R.2)),(44,true,.d (.sl 3 (L.1.map snpD))),(45,true,.d (.int .i64 L.1.length)),(46,true,.d (.int .i64 q.1))],[(1,.var [.d (.int .i64 R.1.l1),.d (.int .u32 R.1.next)]),(0,.var (imgV x))],some []⟩) (fun q=>L.1.length - q.1) ⟨0,Nat.zero_le _,by simp⟩ le1 (fun q=>?_)
 obtain ⟨i,hi,ht⟩:=q
 simp only at hi ht ⊢
 rcases zM snpD L.1 i hi with ⟨u,hq,hlt,hcmp,hrow,hdr,htk⟩|⟨hend,hcmp⟩
 ·simp only [snpD] at hrow
  have hwi:=zn (i:=i) (by omega)
  cases hb:decide (R.1.next≤u.id) with
  |true=>refine' walkW (zA hcmp hrow hb) (za zaj <| za z6 <| za z2 <| za zQ <| za zab <| za zaC <| za zu <| zb _)
  | false=>
   refine' walkW (zA hcmp hrow hb) (za zaj <| za z6 <| za z2 <| za zQ <| za zab <| za zaC <| za zu <| zb _)
   exact ⟨⟨i+1,by omega,fun s hs=>by
    rw [htk,List.mem_append,List.mem_singleton] at hs
    rcases hs with hs|rfl
    ·exact ht s hs
    ·simpa using hb⟩,lev,by simp;omega⟩
 rw [hend,List.take_length] at ht
 clear hend hi
 have hYF:ImgF Y.1:=by rw [hY];exact hF.create name
 cases hb:(Y.2.2 !=0||L.2 !=0||R.2 !=0) with
 |true=>refine' walkW (zA hcmp hY.symm hb) (za zaj <| za z6 <| za z2 <| za zQ <| za zab <| za zaC <| za zu <| zb _)
 |false=>
 simp only [Bool.or_eq_false_iff,bne_eq_false_iff_eq] at hb
 obtain ⟨⟨hb1,hb2⟩,hb3⟩:=hb
 obtain ⟨M,hM⟩:∃M,M=slist Y.1.disk:=⟨_,rfl⟩
 have hmade:=zpN hF (show (zU x name).2.2=0 by rw [← hY];exact hb1)
 rw [← hY,← hR,← hL,← hM] at hmade
 obtain ⟨A,B,v,hv1,hv2,hv3,hLe,hMe,hnm⟩:=hmade
 refine' walkW (zL hcmp hY.symm hb1 hb2 hb3 (zA @bne_self_eq_false.{0} @Bool.or_self hM.symm)) (za zaj <| za z6 <| za z2 <| za zQ <| za zab <| za zaC <| za zu <| zb _)
 have hMl:M.1.length≤9:=by rw [hMe];rw [hLe] at hLl;simp only [List.length_append,List.length_cons] at hLl ⊢;omega
 have hidn:∀s∈A++B,s.id≠Y.2.1:=fun s hs=>by
  have:=ht s (by rw [hLe];exact hs)
  omega
 have hMn:∀s∈M.1,s.id=Y.2.1→s.name=name:=fun s hs he=>by
  rw [hMe,List.mem_append,List.mem_cons] at hs
  rcases hs with hs|rfl|hs
  ·exact absurd he (hidn s (List.mem_append.2 (.inl hs)))
  ·exact hv2
  ·exact absurd he (hidn s (List.mem_append.2 (.inr hs)))
 have hMc:((M.1.filter (fun s=>s.id==Y.2.1)).length:Int)=1:=by
  have hz:∀l:List Snp,(∀s∈l,s∈A++B)→l.filter (fun s=>s.id==Y.2.1)= []:=fun l hl=>by
   rw [List.filter_eq_nil_iff]
   intro s hs
   have:=hidn s (hl s hs)
   simpa using this
  have hvv:(v.id==Y.2.1)=true:=by simpa using hv1
  rw [hMe,List.filter_append,List.filter_cons,if_pos hvv,hz A (fun s hs=>List.mem_append.2 (.inl hs)),hz B (fun s hs=>List.mem_append.2 (.inr hs))]
  rfl
 refine zk (fun q: { i:Nat // i≤M.1.length } =>⟨[(1,true,.d (.str name)),(5,true,.d (.sl 3 (L.1.map snpD))),(11,true,.vp 2 0),(12,true,.d (.int .u32 Y.2.1)),(14,true,.d (.sl 3 (M.1.map snpD))),(15,true,.d (.int .i64 M.2)),(16,true,.d (.int .i64 ((M.1.take q.1).filter (fun s=>s.id==Y.2.1)).length)),(80,true,.d (.sl 3 (M.1.map snpD))),(81,true,.d (.int .i64 M.1.length)),(82,true,.d (.int .i64 q.1))],[(2,.var (imgV Y.1))],some []⟩) (fun q=>M.1.length - q.1) ⟨0,Nat.zero_le _⟩ le1 (fun q=>?_)
 obtain ⟨i,hi⟩:=q
 simp only at hi ⊢
 rcases zM snpD M.1 i hi with ⟨u,hq,hlt,hcmp2,hrow,hdr,htk⟩|⟨hend,hcmp2⟩
 ·simp only [snpD] at hrow
  have hwi:=zn (i:=i) (by omega)
  have hum:u∈M.1:=List.mem_of_getElem? hq
  have hfl:((M.1.take i).filter (fun s=>s.id==Y.2.1)).length≤9:=Nat.le_trans (List.length_filter_le ..) (by rw [List.length_take];omega)
  cases hb:(u.id==Y.2.1) with
  | true=>
   have hnn:(u.name !=name)=false:=by
    have:=hMn u hum (by simpa using hb)
    simp [this]
   have hwn:IntKind.i64.wrap ((((M.1.take i).filter (fun s=>s.id==Y.2.1)).length:Int)+1)=(((M.1.take (i+1)).filter (fun s=>s.id==Y.2.1)).length:Int):=by
    rw [ze (by omega) (by omega),htk,List.filter_append,List.filter_cons,if_pos hb,List.length_append]
    rfl
   refine' walkW (zbQ hcmp2 hrow hb hnn hwn) (za zaj <| za z6 <| za z2 <| za zQ <| za zab <| za zaC <| za zu <| zb _)
   exact ⟨⟨i+1,by omega⟩,lev,by simp;omega⟩
  | false=>
   have hfs:(M.1.take (i+1)).filter (fun s=>s.id==Y.2.1)=(M.1.take i).filter (fun s=>s.id==Y.2.1):=by
    rw [htk,List.filter_append,List.filter_cons,if_neg (by rw [hb];decide)]
    simp
   refine' walkW (zA hcmp2 hrow hb) (za zaj <| za z6 <| za z2 <| za zQ <| za zab <| za zaC <| za zu <| zb _)
   exact ⟨⟨i+1,by omega⟩,by simp only [hfs];simp only [AS.le,leT,leH,zj,AsgK,AV.le,AV.leL,AObj.le,inH,idsT,idsH,AV.ids,AV.idsL,AV.idsR,AObj.ids,lk,hget,go_sem,aeq,aeq.aeqF,simprocAttr,hwi]<;>and_intros<;>rfl,by simp;omega⟩
 rw [hend] at hcmp2
 rw [hend,List.take_length,hMc]
 clear hend hi hMc
 refine' walkW hcmp2 (za zaj <| za z6 <| za z2 <| za zQ <| za zab <| za zaC <| za zu <| zb _)
 refine zk (fun q: { i:Nat // i≤L.1.length } =>⟨[(1,true,.d (.str name)),(5,true,.d (.sl 3 (L.1.map snpD))),(11,true,.vp 2 0),(12,true,.d (.int .u32 Y.2.1)),(14,true,.d (.sl 3 (M.1.map snpD))),(15,true,.d (.int .i64 M.2)),(16,true,.d (.int .i64 1)),(97,true,.d (.sl 3 (L.1.map snpD))),(98,true,.d (.int .i64 L.1.length)),(99,true,.d (.int .i64 q.1))],[(2,.var (imgV Y.1))],some []⟩) (fun q=>L.1.length - q.1) ⟨0,Nat.zero_le _⟩ le1 (fun q=>?_)
 obtain ⟨i,hi⟩:=q
 simp only at hi ⊢
 rcases zM snpD L.1 i hi with ⟨u,hq,hlt,hcmp3,hrow,hdr,htk⟩|⟨hend,hcmp3⟩
 ·simp only [snpD] at hrow
  have hwi:=zn (i:=i) (by omega)
  have hum:u∈A++B:=by have:=List.mem_of_getElem? hq;rw [hLe] at this;exact this
  have hb1:(u.id==Y.2.1)=false:=by simpa using hidn u hum
  have hb2:(u.name==name)=false:=by simpa using hnm u hum
  have hin:M.1.any (fun s=>decide (s=u))=true:=by
   rw [List.any_eq_true]
   refine ⟨u,?_,by simp⟩
   rw [hMe,List.mem_append,List.mem_cons]
   rw [List.mem_append] at hum
   rcases hum with h|h
   ·exact .inl h
   ·exact .inr (.inr h)
  refine' walkW (zp hcmp3 hrow) (za zaj <| za z6 <| za z2 <| za zQ <| za zab <| za zaC <| za zu <| zb _)
  refine zk (fun q: { j:Nat // j≤M.1.length } =>⟨[(1,true,.d (.str name)),(5,true,.d (.sl 3 (L.1.map snpD))),(11,true,.vp 2 0),(12,true,.d (.int .u32 Y.2.1)),(14,true,.d (.sl 3 (M.1.map snpD))),(15,true,.d (.int .i64 M.2)),(16,true,.d (.int .i64 1)),(20,true,.vp 0 0),(21,true,.d (.bool ((M.1.take q.1).any (fun s=>decide (s=u))))),(97,true,.d (.sl 3 (L.1.map snpD))),(98,true,.d (.int .i64 L.1.length)),(99,true,.d (.int .i64 i)),(103,true,.d (.sl 3 (M.1.map snpD))),(104,true,.d (.int .i64 M.1.length)),(105,true,.d (.int .i64 q.1))],[(0,.var [.d (.int .u32 u.id),.d (.int .i64 u.l1),.d (.str u.name)]),(2,.var (imgV Y.1))],some []⟩) (fun q=>M.1.length - q.1) ⟨0,Nat.zero_le _⟩ le1 (fun q=>?_)
  obtain ⟨j,hj⟩:=q
  simp only at hj ⊢
  rcases zM snpD M.1 j hj with ⟨w,hq2,hlt2,hcmp4,hrow2,hdr2,htk2⟩|⟨hend2,hcmp4⟩
  ·simp only [snpD] at hrow2
   have hwj:=zn (i:=j) (by omega)
   have hes:(w.id==u.id&&(w.l1==u.l1&&w.name==u.name))=decide (w=u):=by
    obtain ⟨_,_,_⟩:=u
    obtain ⟨_,_,_⟩:=w
    rw [Bool.eq_iff_iff]
    simp
   have hta:(M.1.take (j+1)).any (fun s=>decide (s=u))=((M.1.take j).any (fun s=>decide (s=u))||decide (w=u)):=by rw [htk2,List.any_append];simp
   cases hb:(M.1.take j).any (fun s=>decide (s=u)) with
   |true=>
    rw [hb,Bool.true_or] at hta
    refine' walkW (zA hcmp4 hrow2 hb) (za zaj <| za z6 <| za z2 <| za zQ <| za zab <| za zaC <| za zu <| zb _)
    exact ⟨⟨j+1,by omega⟩,by simp only [hta];simp only [AS.le,leT,leH,zj,AsgK,AV.le,AV.leL,AObj.le,inH,idsT,idsH,AV.ids,AV.idsL,AV.idsR,AObj.ids,lk,hget,go_sem,aeq,aeq.aeqF,simprocAttr,hwj]<;>and_intros<;>rfl,by simp;omega⟩
   |false=>
    rw [hb,Bool.false_or] at hta
    refine' walkW (z8 hcmp4 hrow2 hb hes) (za zaj <| za z6 <| za z2 <| za zQ <| za zab <| za zaC <| za zu <| zb _)
    exact ⟨⟨j+1,by omega⟩,by simp only [hta];simp only [AS.le,leT,leH,zj,AsgK,AV.le,AV.leL,AObj.le,inH,idsT,idsH,AV.ids,AV.idsL,AV.idsR,AObj.ids,lk,hget,go_sem,aeq,aeq.aeqF,simprocAttr,hwj]<;>and_intros<;>rfl,by simp;omega⟩
  ·rw [hend2] at hcmp4
   rw [hend2,List.take_length,hin]
   refine' walkW (zA hcmp4 hb1 hb2) (za zaj <| za z6 <| za z2 <| za zQ <| za zab <| za zaC <| za zu <| zb _)
   exact ⟨⟨i+1,by omega⟩,lev,by simp;omega⟩
 ·obtain ⟨Z,hZ⟩:∃Z,Z=zaH Y.1 Y.2.1:=⟨_,rfl⟩
  have hZF:ImgF Z.1:=by rw [hZ];exact hYF.delete _
  obtain ⟨O,hO⟩:∃O,O=slist Z.1.disk:=⟨_,rfl⟩
  have hrn:=(zdh x.disk p0).2.2
  rw [← hR] at hrn
  have hy0:0≤Y.2.1:=by omega
  have hy1:Y.2.1≤4294967295:=by omega
  have hm1:(M.2==0)=true:=by rw [hMe];rfl
  have hm2:((M.1.length:Int)==IntKind.i64.wrap ((L.1.length:Int)+1))=true:=by
   rw [ze (by omega) (by omega),hMe,hLe]
   simp
   omega
  cases hz:(Z.2 !=0) with
  |true=>refine' walkW (zL hcmp3 hZ.symm hO.symm hm1 hm2 hz) (za zaj <| za z6 <| za z2 <| za zQ <| za zab <| za zaC <| za zu <| zb _)
  | false=>
   have hdl:=zj7 (x:=Y.1) (id:=Y.2.1) hYF (by rw [← hZ];simpa using hz)
   rw [← hZ,← hO,← hM] at hdl
   have ho1:(O.2==0)=true:=by rw [hdl.1];rfl
   have ho2:((O.1.length:Int)==(L.1.length:Int))=true:=by
    have:=hdl.2
    rw [hMe] at this
    rw [hLe]
    simp at this ⊢
    omega
   refine' walkW (zL hcmp3 hZ.symm hO.symm hm1 hm2 (zA hz ho1 ho2)) (za zaj <| za z6 <| za z2 <| za zQ <| za zab <| za zaC <| za zu <| zb _)
end Go.Aw
