/-
  Parts of the proof: AuditD, AuditE, AuditF, SnapJ (short names; the readable texts lie in the repo, under wip).
-/
import Derived.Test.YtbmlikkofegdeaaGreatDoorPiece37
import Derived.Test.YtbmlikkofegdeaaGreatDoorPiece17
import Derived.Test.YtbmlikkofegdeaaGreatDoorPiece29
import Derived.Test.YtbmlikkofegdeaaGreatDoorPiece38
import Derived.Test.YtbmlikkofegdeaaGreatDoorPiece40
import Derived.Test.YtbmlikkofegdeaaGreatDoorPiece34
import Derived.Test.YtbmlikkofegdeaaGreatDoorPiece32
set_option maxRecDepth 100000
set_option maxHeartbeats 2000000
set_option linter.unusedSimpArgs false
set_option linter.unusedVariables false
namespace Go.Aw
open Go Go.Proofs
def zjw (d:Disk):List (Int×Int):=if (zaF d).2≠0 then [(0,(zaF d).2)] else (zaF d).1.map (λt=>(t,0))
theorem zrt (x:Img) (_:True):AC 154 [imgA x] (.fn (.func 210) [] [.dp (imgV x)]):=by refine fbod Tryz.func154 Tryz.ntmps154 (λbase=>?_);refine' zc fx
@[go_sem] noncomputable def zfE:Ent Tryz.prog 154:= .m1 zbG zrt
theorem zru (x:Img) (h:ImgF x):AIter Tryz.prog 210 3 [] [.dp (imgV x)] [] ((zjw x.disk).map freeI) (λgg h'=>(∀xs,gg=some xs->xs=(zjw x.disk).map freeI)/\h'= []):=by
 have hdp:DP x.disk p0:=⟨h.disk,zaw⟩
 have hll:=zgM (d:=x.disk) (p:=p0);have hsf:=ziX (d:=x.disk) (p:=p0);obtain ⟨R,hR⟩:∃R,R=ze x.disk p0:=⟨_,rfl⟩
 obtain ⟨L,hL⟩:∃L,L=snaps x.disk p0:=⟨_,rfl⟩
 obtain ⟨T0,hT0⟩:∃T0,T0=(zjw x.disk).map freeI:=⟨_,rfl⟩
 have hT:T0=if R.2≠0 then [freeI (0,R.2)] else if L.2≠0 then [freeI (0,L.2)] else freeI (R.1.l1,0)::((L.1.filter (λs=>s.id !=0)).map (λs=>freeI (s.l1,0))):=by rw [hT0,zjw,zaF,<-hR,<-hL];by_cases h1:R.2=0<;>by_cases h2:L.2=0<;>simp [h1,h2,List.map_map,Function.comp_def]
 rw [<-hT0];rw [<-hL] at hll hsf;refine itr Tryz.func210 Tryz.ntmps210 (λbase y=>?_);refine zfq ?_;by_cases h1:R.2=0
 ·have hb1:(R.2 !=0)=false:=by simpa using h1
  rw [if_neg (by simpa using h1)] at hT;by_cases h2:L.2=0
  ·have hb2:(L.2 !=0)=false:=by simpa using h2
   rw [if_neg (by simpa using h2)] at hT;have hpr:([]++ [[.d (.int .i64 R.1.l1),.d (.int .i64 0)]])<+:T0:=⟨_,by rw [hT];rfl⟩
   refine' walkX (zah hR.symm hL.symm hb1 hb2) (za zo <| za zeK <| zb _);refine zq (λq: { i:Nat // i<=L.1.length } =>⟨[(0,true,.fn (.yield y.yl) [] []),(37,true,.d (.sl 3 (L.1.map snpD))),(38,true,.d (.int .i64 L.1.length)),(39,true,.d (.int .i64 q.1))],[],some (freeI (R.1.l1,0)::((L.1.take q.1).filter (λs=>s.id !=0)).map (λs=>freeI (s.l1,0)))⟩) (λq=>L.1.length - q.1) ⟨0,Nat.zero_le _⟩ (by simp only [AS.le,leT,leH,zf,AsgK,AV.le,AV.leL,AObj.le,inH,idsT,idsH,AV.ids,AV.idsL,AV.idsR,AObj.ids,lk,hget,go_sem,aeq,aeq.aeqF,simprocAttr,freeI]<;>and_intros<;>rfl) (λq=>?_);obtain ⟨i,hi⟩:=q;simp only;rcases zP snpD L.1 i hi with ⟨s,hq,hlt,hcmp,hrow,hdr,htk⟩|⟨hend,hcmp⟩
   ·simp only [snpD] at hrow;have hwi:=zr (i:=i) (by omega);have hs0:=(hsf s (List.mem_of_getElem? hq)).1;obtain ⟨A,hA⟩:∃A,A=freeI (R.1.l1,0)::((L.1.take i).filter (λs=>s.id !=0)).map (λs=>freeI (s.l1,0)):=⟨_,rfl⟩
    rw [<-hA];by_cases hz:s.id=0
    ·have hb:decide (0<s.id)=false:=decide_eq_false (by omega);have hA2:freeI (R.1.l1,0)::((L.1.take (i+1)).filter (λs=>s.id !=0)).map (λs=>freeI (s.l1,0))=A:=by rw [hA,htk,List.filter_append];simp [hz]
     refine' z7 (zB hcmp hrow hb);exact ⟨⟨i+1,by omega⟩,by rw [hA2];simp only [AS.le,leT,leH,zf,AsgK,AV.le,AV.leL,AObj.le,inH,idsT,idsH,AV.ids,AV.idsL,AV.idsR,AObj.ids,lk,hget,go_sem,aeq,aeq.aeqF,simprocAttr,hwi],by simp;omega⟩
    ·have hb:decide (0<s.id)=true:=decide_eq_true (by omega);have hA2:freeI (R.1.l1,0)::((L.1.take (i+1)).filter (λs=>s.id !=0)).map (λs=>freeI (s.l1,0))=A++ [[.d (.int .i64 s.l1),.d (.int .i64 0)]]:=by rw [hA,htk,List.filter_append];simp [hz,freeI]
     have hpr2:(A++ [[.d (.int .i64 s.l1),.d (.int .i64 0)]])<+:T0:=by rw [<-hA2,hT];exact ⟨((L.1.drop (i+1)).filter (λs=>s.id !=0)).map (λs=>freeI (s.l1,0)),by rw [List.cons_append,<-List.map_append,<-List.filter_append,List.take_append_drop]⟩
     refine' z7 (zB hcmp hrow hb);exact ⟨⟨i+1,by omega⟩,by rw [hA2];simp only [AS.le,leT,leH,zf,AsgK,AV.le,AV.leL,AObj.le,inH,idsT,idsH,AV.ids,AV.idsL,AV.idsR,AObj.ids,lk,hget,go_sem,aeq,aeq.aeqF,simprocAttr,hwi],by simp;omega⟩
   ·refine' z7 hcmp;rintro zs rfl;rw [hT,hend,List.take_length]
  ·have hb2:(L.2 !=0)=true:=by simpa using h2
   rw [if_pos h2] at hT;have hpr:([]++ [[.d (.int .i64 0),.d (.int .i64 L.2)]])<+:T0:=⟨[],by rw [hT];rfl⟩
   refine' walkX (zah hR.symm hL.symm hb1 hb2) (za zo <| za zeK <| zb _);rintro zs rfl;rw [hT];rfl
 ·have hb1:(R.2 !=0)=true:=by simpa using h1
  rw [if_pos h1] at hT;have hpr:([]++ [[.d (.int .i64 0),.d (.int .i64 R.2)]])<+:T0:=⟨[],by rw [hT];rfl⟩
  refine' walkX (zn hR.symm hb1) (za zo <| za zeK <| zb _);rintro zs rfl;rw [hT];rfl
def cntA (d:Disk) (l:List Int):List Int:=l.flatMap (λt=>(reach d p0 t).1++ [t])
def nC (a:List Int):List AV:=(cnts 256 a).map (λv=>AV.d (.int .i64 v))
theorem znp:∀l:List Int,AV.idsL (l.map (λv=>AV.d (.int .i64 v)))= []
 | []=>rfl
 |x::l=>by simp only [List.map_cons,AV.idsL,AV.ids,List.nil_append];exact znp l
theorem zyA (a:List Int):(nC a).length=256:=by rw [nC,List.length_map,zbH]
theorem zyB (a:List Int):AV.idsL (nC a)= []:=znp _
theorem zyC (a:List Int):(nC a).all AV.isD=true:=by rw [nC,List.all_map];exact List.all_eq_true.2 (λ_ _=>rfl)
theorem zyD (a:List Int):(nC a).map AV.oneD=(cnts 256 a).map intD:=by rw [nC,List.map_map];rfl
theorem zt6 {n:Nat} (a:List Int) (h:n<=256):((cnts 256 a).map intD).take n=(cnts n a).map intD:=by unfold cnts;rw [<-List.map_take,<-List.map_take,List.take_range,Nat.min_eq_left h]
theorem zyE:nC []=List.replicate 256 (.d (.int .i64 0)):=by unfold nC cnts;rw [List.map_map];exact List.eq_replicate_iff.2 ⟨by rw [List.length_map,List.length_range],λb hb=>by obtain ⟨i,_,rfl⟩:=List.mem_map.1 hb;simp⟩
@[simp, go_sem] theorem cntA_nil (d:Disk):cntA d []= []:=rfl
theorem zyF (a:List Int) {k:Nat} (h:k<256):(nC a)[k]?=some (.d (.int .i64 ((a.count (k:Int):Nat):Int))):=by
 rw [nC,List.getElem?_map,zfZ a h];rfl
theorem zyG (a:List Int) {k:Nat} (h:k<256):(nC a).set k (.d (.int .i64 (((a.count (k:Int):Nat):Int)+1)))=nC (a++ [(k:Int)]):=by
 rw [nC,nC,<-zpI a h,List.map_set]
theorem zv1 (d:Disk) (l:List Int) (t:Int):cntA d (l++ [t])=cntA d l++((reach d p0 t).1++ [t]):=by unfold cntA;rw [List.flatMap_append,List.flatMap_cons,List.flatMap_nil,List.append_nil]
theorem zoW (l:List Int) (hl:l.length<=5000):AC 156 [.d (.sl 1 (l.map intD))] (.d (.sl 1 (l.map intD))):=by refine fbod Tryz.func156 Tryz.ntmps156 (λbase=>?_);refine' zc fx;rw [hnb hc]
@[go_sem] noncomputable def zfa:Ent Tryz.prog 156:= .m1 (slT 1 intD zc7) zoW
theorem ACallAt.le {P:Program} {fl:Nat} {f:FuncId} {args args':List AV} {h:AHeap} {K:AV->AHeap->Prop} (hl:AV.leL args args') (hc:ACallAt P fl f args' h K):ACallAt P fl f args h K:=⟨hc.1,λE w vs hs hr=>hc.2 E w vs hs (Reps.le _ _ _ hl hr)⟩
attribute [local simp, local go_sem] AV.leL_refl zyB zyA
theorem zrv (x:Img) (hp:ImgF x∧0≤x.geom.host):AC 79 [imgA x] (.tup [.d (.sl 1 ((zba x).1.map intD)),.d (.int .i64 (zba x).2)]):=by
 obtain ⟨h,hh⟩:=hp
 refine fbod Tryz.func79 Tryz.ntmps79 (fun base=>?_)
 have hdp:DP x.disk p0:=⟨h.disk,zaw⟩
 have hho:=h.host
 refine' zk7 (zav 1) fx
 refine zaN 0 rfl ?_
 refine aw_le ⟨[(1,true,.dp (imgV x)),(2,true,.vp 1 0),(3,true,.vp 2 0)],[(2,.var [.d (.int .i64 0)]),(1,.var [.nils 1])],some []⟩ (by simp only [AS.le,leT,leH,zf,AsgK,AV.le,AV.leL,AObj.le,inH,idsT,idsH,AV.ids,AV.idsL,AV.idsR,AObj.ids,lk,hget,go_sem,aeq,aeq.aeqF,simprocAttr,List.drop_zero]) ?_
 refine' zk7 (zav 2) fx
 refine aw_le ⟨[(1,true,.dp (imgV x)),(2,true,.vp 1 0),(3,true,.vp 2 0),(4,true,.vp 0 0)],[(0,.var (nC [])),(2,.var [.d (.int .i64 0)]),(1,.var [.nils 1])],some []⟩ (by simp only [AS.le,leT,leH,zf,AsgK,AV.le,AV.leL,AObj.le,inH,idsT,idsH,AV.ids,AV.idsL,AV.idsR,AObj.ids,lk,hget,go_sem,aeq,aeq.aeqF,simprocAttr,zyE]) ?_
 obtain ⟨F,hF⟩:∃F,F=zaF x.disk:=⟨_,rfl⟩
 obtain ⟨n,hn⟩:∃n:Nat,x.geom.host=n:=⟨x.geom.host.toNat,by omega⟩
 have hac:zba x=if F.2≠0 then ([],F.2) else if (cntK x.disk n F.1 []).2≠0 then ([],(cntK x.disk n F.1 []).2) else (cnts n (cntK x.disk n F.1 []).1,0):=by rw [zba,hF,hn,Int.toNat_natCast]
 have hfl:F.1.length≤9:=by rw [hF];exact zf4 _
 have hfr:∀t∈F.1,0≤t∧t≤65535:=by rw [hF];exact zf5 _
 have hit:=zru x h
 have htb:zjw x.disk=if F.2≠0 then [(0,F.2)] else F.1.map (fun t=>(t,0)):=by rw [zjw,hF]
 obtain ⟨Q,hQ⟩:∃Q,Q=zjw x.disk:=⟨_,rfl⟩
 rw [← hQ] at hit htb
 obtain ⟨J,hJ⟩:∃J:Code→AHeap→Option (List (List AV))→Prop,J=fun c h g=>c= .ret∧g=some []∧∃cs e,zba x=([],e)∧h= [(0,.var cs),(2,.var [.d (.int .i64 e)]),(1,.var [.nils 1])]:=⟨_,rfl⟩
 refine' walkR fx (za zfE <| za zfa <| zb _)
 by_cases hf:F.2=0
 ·rw [if_neg (by simpa using hf)] at htb hac
  obtain ⟨I,hI⟩:∃I:List (List AV)→AHeap×Option (List (List AV)),I=fun xs=>([(0,.var (nC (cntA x.disk (F.1.take xs.length)))),(2,.var [.d (.int .i64 0)]),(1,.var [.nils 1])],some []):=⟨_,rfl⟩
  obtain ⟨G,hG⟩:∃G:List (List AV)→Prop,G=fun xs=>xs.length≤F.1.length∧cntK x.disk n F.1 []=cntK x.disk n (F.1.drop xs.length) (cntA x.disk (F.1.take xs.length))∧(cntA x.disk (F.1.take xs.length)).length≤69*xs.length:=⟨_,rfl⟩
  refine zbk 3 G I J (hit) (by simp only [go_sem,aeq,aeq.aeqF,simprocAttr]) rfl (zJ rfl) (by simp [cxOf,cxY]) rfl (by rw [hG];first|trivial|rfl|simp) (by rw [hI];simp only [AS.le,leT,leH,zf,AsgK,AV.le,AV.leL,AObj.le,inH,idsT,idsH,AV.ids,AV.idsL,AV.idsR,AObj.ids,lk,hget,go_sem,aeq,aeq.aeqF,simprocAttr]<;>simp [AV.leL,AV.le]) (by rw [hI];simp only [AS.le,leT,leH,zf,AsgK,AV.le,AV.leL,AObj.le,inH,idsT,idsH,AV.ids,AV.idsL,AV.idsR,AObj.ids,lk,hget,go_sem,aeq,aeq.aeqF,simprocAttr]<;>simp) (by rw [hI]<;>rfl) (by intro x hx;obtain ⟨q,_,rfl⟩:=List.mem_map.1 hx;rfl) (by intro t ht;simp at ht;first|(rcases ht with rfl|rfl<;>simp [cxOf,cxY]<;>done)|(subst ht;simp [cxOf,cxY])) ?_ ?_ ?_
  ·intro xs x1 hpre hgd l1 r1
   rw [hG] at hgd
   obtain ⟨g1,g2,g3⟩:=hgd
   obtain ⟨ys,q,zs,hys,rfl,hzl⟩:=zcS hpre
   have hln:xs.length=ys.length:=by rw [hys];simp
   have hqQ:Q[xs.length]?=some q:=by rw [hzl,hln];simp
   obtain ⟨t,ht,rfl⟩:∃t,F.1[xs.length]?=some t∧q=(t,0):=by
    rw [htb,List.getElem?_map] at hqQ
    obtain ⟨t,h1,h2⟩:=Option.map_eq_some_iff.1 hqQ
    exact ⟨t,h1,h2.symm⟩
   have htr:=hfr t (List.mem_of_getElem? ht)
   have htk:=zb7 ht
   have hdr:=zcQ ht
   obtain ⟨k,rfl⟩:∃k:Nat,t=k:=⟨t.toNat,by omega⟩
   obtain ⟨a,ha⟩:∃a,a=cntA x.disk (F.1.take xs.length):=⟨_,rfl⟩
   rw [← ha] at g2 g3
   rw [hdr,cntK] at g2
   simp only [freeI]
   refine aw_le ⟨[(13,true,.d (.int .i64 (k:Int))),(14,true,.d (.int .i64 0)),(1,true,.dp (imgV x)),(2,true,.vp 1 0),(3,true,.vp 2 0),(4,true,.vp 0 0)],[(0,.var (nC a)),(2,.var [.d (.int .i64 0)]),(1,.var [.nils 1])],some []⟩ (by rw [hI,ha];simp only [AS.le,leT,leH,zf,AsgK,AV.le,AV.leL,AObj.le,inH,idsT,idsH,AV.ids,AV.idsL,AV.idsR,AObj.ids,lk,hget,go_sem,aeq,aeq.aeqF,simprocAttr]) ?_
   by_cases hkn:n≤k
   ·have hc1:decide (x.geom.host≤(k:Int))=true:=decide_eq_true (by omega)
    rw [if_pos (by omega)] at g2
    refine' zaO hc1
    rw [hJ]
    exact ⟨rfl,rfl,_,26,by rw [hac,g2,if_pos (by simp)],rfl⟩
   have hc1:decide (x.geom.host≤(k:Int))=false:=decide_eq_false (by omega)
   rw [if_neg (by omega)] at g2
   have hown:=zjq x.disk p0 k hdp
   have hWr:∀y∈(reach x.disk p0 k).1,0≤y∧y<256:=zmV
   have hWl:=zfz (d:=x.disk) (p:=p0) (t:=(k:Int))
   have hcA:=zv1 x.disk (F.1.take xs.length) k
   rw [← htk,← ha] at hcA
   obtain ⟨W,hW⟩:∃W,W=reach x.disk p0 k:=⟨_,rfl⟩
   rw [← hW] at g2 hown hWr hWl hcA
   refine' zaO hc1
   refine ACallAt.le (args':= [diskA x.disk,planA p0,.d (.int .i64 (k:Int))]) (by simp [AV.leL,AV.le,diskA,planA,p0]) ?_
   refine (ACall.own (h:= [(0,.var (nC a)),(2,.var [.d (.int .i64 0)]),(1,.var [.nils 1])]) (fl':=3) hown rfl rfl (Nat.le_refl _) ?_).mono ?_
   ·rintro r h' (⟨_,rfl,a',rfl⟩|⟨_,rfl,rfl⟩)<;>rfl
   rintro r h' ⟨h1,⟨hz,rfl,a',rfl⟩|⟨hz,rfl,rfl⟩,rfl⟩
   ·have hb:(W.2 !=0)=true:=by simpa using hz
    rw [if_pos hz] at g2
    simp only [go_sem,aeq,aeq.aeqF,simprocAttr]
    refine hK _ ?_
    clear hK K
    refine' zk7 (zav 11) hb
    refine aw_le ⟨[(8,true,.d (.int .i64 W.2)),(2,true,.vp 1 0),(3,true,.vp 2 0)],[(0,.var (nC a)),(2,.var [.d (.int .i64 0)]),(1,.var [.nils 1])],some []⟩ le0 ?_
    refine' zaO fx
    rw [hJ]
    exact ⟨rfl,rfl,_,W.2,by rw [hac,g2,if_pos hz],rfl⟩
   rw [if_neg (by simpa using hz)] at g2
   simp only [go_sem,aeq,aeq.aeqF,simprocAttr]
   refine hK _ ?_
   clear hK K
   obtain ⟨V,hV⟩:∃V,V=W.1++ [(k:Int)]:=⟨_,rfl⟩
   have hVl:V.length=W.1.length+1:=by rw [hV];simp
   have hVr:∀y∈V,0≤y∧y≤65535:=by
    intro y hy
    rw [hV] at hy
    rcases List.mem_append.1 hy with hy|hy
    ·have:=hWr y hy;omega
    ·rw [List.mem_singleton] at hy;omega
   have hVm:V.map intD=W.1.map intD++ [[.int .i64 k]]:=by rw [hV];simp [intD]
   have hWm:(W.1.map intD).length=W.1.length:=List.length_map _
   refine' zaO hWm
   all_goals first|omega|exact (by rw [← hVm,List.length_map,hVl])|skip
   refine zq (fun q: { j:Nat // j≤V.length∧∀y∈V.take j,y<n } =>⟨[(1,true,.dp (imgV x)),(2,true,.vp 1 0),(3,true,.vp 2 0),(4,true,.vp 0 0),(37,true,.osl 12 1 V.length 0 V.length),(38,true,.d (.int .i64 V.length)),(39,true,.d (.int .i64 q.1))],[(12,.arr 1 (V.map intD)),(0,.var (nC (a++V.take q.1))),(2,.var [.d (.int .i64 0)]),(1,.var [.nils 1])],some []⟩) (fun q=>V.length - q.1) ⟨0,Nat.zero_le _,fun y hy=>by simp at hy⟩ (by simp only [hVl,hVm];simp only [AS.le,leT,leH,zf,AsgK,AV.le,AV.leL,AObj.le,inH,idsT,idsH,AV.ids,AV.idsL,AV.idsR,AObj.ids,lk,hget,go_sem,aeq,aeq.aeqF,simprocAttr,List.append_nil,List.take_zero]<;>and_intros<;>rfl) (fun q=>?_)
   obtain ⟨j,hj,hjn⟩:=q
   simp only
   rcases zP intD V j hj with ⟨v,hvq,hlt,hcmp,hrow,hdr2,htk2⟩|⟨hend,hcmp⟩
   ·simp only [intD] at hrow
    have hwj:=zr (i:=j) (by omega)
    have hvr:=hVr v (List.mem_of_getElem? hvq)
    obtain ⟨u,rfl⟩:∃u:Nat,v=u:=⟨v.toNat,by omega⟩
    have hVml:(V.map intD).length=V.length:=List.length_map _
    by_cases hnu:n≤u
    ·have hc2:decide (x.geom.host≤(u:Int))=true:=decide_eq_true (by omega)
     refine' zk7 (zav 16) (zbj hcmp hrow hVml natC hc2)
     refine aw_le ⟨[(2,true,.vp 1 0),(3,true,.vp 2 0)],[(0,.var (nC (a++V.take j))),(2,.var [.d (.int .i64 0)]),(1,.var [.nils 1])],some []⟩ le0 ?_
     refine' zaO fx
     rw [hJ]
     have hany:W.1.any (fun k=>decide ((n:Int)≤k))=true:=by
      have hm:=List.mem_of_getElem? hvq
      rw [hV] at hm
      rcases List.mem_append.1 hm with hm|hm
      ·exact List.any_eq_true.2 ⟨u,hm,decide_eq_true (by omega)⟩
      ·rw [List.mem_singleton] at hm;omega
     exact ⟨rfl,rfl,_,26,by rw [hac,g2,if_pos hany,if_pos (by simp)],rfl⟩
    ·have hc2:decide (x.geom.host≤(u:Int))=false:=decide_eq_false (by omega)
     have hu:u<256:=by omega
     obtain ⟨A,hA⟩:∃A,A=a++V.take j:=⟨_,rfl⟩
     rw [← hA]
     have hg1:(nC A).getD (u*1) AV.any= .d (.int .i64 ((A.count (u:Int):Nat):Int)):=by rw [Nat.mul_one,List.getD_eq_getElem?_getD,zyF A hu];rfl
     have hs1:putL (nC A) (u*1) [.d (.int .i64 (((A.count (u:Int):Nat):Int)+1))]=nC (A++ [(u:Int)]):=by rw [Nat.mul_one,← zyG A hu];rfl
     have hxl:=(List.getElem?_eq_some_iff.1 ht).1
     have hAl:A.length≤69*10:=by rw [hA,List.length_append,List.length_take];omega
     have hcl:=zib (k:=(u:Int)) hAl
     have hwc:IntKind.i64.wrap (((A.count (u:Int):Nat):Int)+1)=((A.count (u:Int):Nat):Int)+1:=zg (by omega) (by omega)
     have hA2:A++ [(u:Int)]=a++V.take (j+1):=by rw [hA,htk2,List.append_assoc]
     refine' zaO (zL hcmp hrow hVml natC hc2 (zB hg1 hs1 hwc))
     all_goals first|omega|skip
     exact ⟨⟨j+1,by omega,fun y hy=>by
      rw [htk2] at hy
      rcases List.mem_append.1 hy with hy|hy
      ·exact hjn y hy
      ·rw [List.mem_singleton] at hy;omega⟩,by rw [← hA2];simp only [AS.le,leT,leH,zf,AsgK,AV.le,AV.leL,AObj.le,inH,idsT,idsH,AV.ids,AV.idsL,AV.idsR,AObj.ids,lk,hget,go_sem,aeq,aeq.aeqF,simprocAttr,hwj],by simp;omega⟩
   ·have hVt:V.take j=V:=by rw [hend,List.take_length]
    rw [hVt] at hjn ⊢
    have hano:¬W.1.any (fun k=>decide ((n:Int)≤k))=true:=by
     rw [List.any_eq_true]
     rintro ⟨y,hy,h9⟩
     have:=hjn y (by rw [hV];exact List.mem_append.2 (.inl hy))
     have:=of_decide_eq_true h9
     omega
    rw [if_neg hano,← hcA] at g2
    have hxl:=(List.getElem?_eq_some_iff.1 ht).1
    have hcl:(cntA x.disk (F.1.take (xs.length+1))).length≤69*(xs.length+1):=by
     rw [hcA];simp only [List.length_append,List.length_cons,List.length_nil];omega
    have haV:a++V=cntA x.disk (F.1.take (xs.length+1)):=by rw [hcA,hV]
    rw [haV]
    refine' zaO (zah hcmp hI @List.length_append.{0} @List.length_singleton.{0})
    all_goals first|omega|skip
    rw [hG]
    show (xs++ [freeI ((k:Int),0)]).length≤F.1.length∧cntK x.disk n F.1 []=cntK x.disk n (F.1.drop (xs++ [freeI ((k:Int),0)]).length) (cntA x.disk (F.1.take (xs++ [freeI ((k:Int),0)]).length))∧(cntA x.disk (F.1.take (xs++ [freeI ((k:Int),0)]).length)).length≤69*(xs++ [freeI ((k:Int),0)]).length
    rw [List.length_append,List.length_singleton]
    exact ⟨by omega,g2,hcl⟩
  ·intro hgd
   rw [hG] at hgd
   rw [List.length_map,htb,List.length_map,List.drop_length,List.take_length] at hgd
   obtain ⟨_,g2,_⟩:=hgd
   obtain ⟨A,hA⟩:∃A,A=cntA x.disk F.1:=⟨_,rfl⟩
   rw [← hA,cntK] at g2
   have hfin:zba x=(cnts n A,0):=by rw [hac,g2,if_neg (by simp)]
   have hIq:I (Q.map freeI)=([(0,.var (nC A)),(2,.var [.d (.int .i64 0)]),(1,.var [.nils 1])],some []):=by
    rw [hI,hA,htb]
    simp only [List.length_map,List.take_length]
   rw [hIq]
   have hnt:Int.toNat x.geom.host=n:=by omega
   have hct:=zt6 A (n:=n) (by omega)
   refine' zki (zav 19) fx (za zfE <| za zfa <| zb _)
   refine aw_le ⟨[(1,true,.dp (imgV x)),(2,true,.vp 1 0),(3,true,.vp 2 0),(4,true,.vp 0 0)],[(0,.var (nC A)),(2,.var [.d (.int .i64 0)]),(1,.var [.nils 1])],some []⟩ (by simp only [AS.le,leT,leH,zf,AsgK,AV.le,AV.leL,AObj.le,inH,idsT,idsH,AV.ids,AV.idsL,AV.idsR,AObj.ids,lk,hget,go_sem,aeq,aeq.aeqF,simprocAttr,keepT]) ?_
   refine zaN 0 rfl ?_
   refine aw_le ⟨[(1,true,.dp (imgV x)),(2,true,.vp 1 0),(3,true,.vp 2 0),(4,true,.dp (nC A))],[(2,.var [.d (.int .i64 0)]),(1,.var [.nils 1])],some []⟩ (by simp only [AS.le,leT,leH,zf,AsgK,AV.le,AV.leL,AObj.le,inH,idsT,idsH,AV.ids,AV.idsL,AV.idsR,AObj.ids,lk,hget,go_sem,aeq,aeq.aeqF,simprocAttr,List.drop_zero]) ?_
   have hisd:=zyC A
   have hcl9:(cnts n A).length≤5000:=by rw [zbH];omega
   refine' walkR (zah @zyD hisd hnt hct) (za zfE <| za zfa <| zb _)
   all_goals first|omega|skip
   rw [hfin]
  ·rw [hJ]
   rintro c h3 g3 ⟨rfl,rfl,cs,e,he,rfl⟩
   refine' zaO fx
   rw [he]
   rfl
 ·rw [if_pos hf] at htb hac
  obtain ⟨I,hI⟩:∃I:List (List AV)→AHeap×Option (List (List AV)),I=fun xs=>([(0,.var (nC [])),(2,.var [.d (.int .i64 0)]),(1,.var [.nils 1])],some []):=⟨_,rfl⟩
  obtain ⟨G,hG⟩:∃G:List (List AV)→Prop,G=fun xs=>(xs≠ []→False):=⟨_,rfl⟩
  refine zbk 3 G I J (hit) (by simp only [go_sem,aeq,aeq.aeqF,simprocAttr]) rfl (zJ rfl) (by simp [cxOf,cxY]) rfl (by rw [hG];first|trivial|rfl|simp) (by rw [hI];simp only [AS.le,leT,leH,zf,AsgK,AV.le,AV.leL,AObj.le,inH,idsT,idsH,AV.ids,AV.idsL,AV.idsR,AObj.ids,lk,hget,go_sem,aeq,aeq.aeqF,simprocAttr]<;>simp [AV.leL,AV.le]) (by rw [hI];simp only [AS.le,leT,leH,zf,AsgK,AV.le,AV.leL,AObj.le,inH,idsT,idsH,AV.ids,AV.idsL,AV.idsR,AObj.ids,lk,hget,go_sem,aeq,aeq.aeqF,simprocAttr]<;>simp) (by rw [hI]<;>rfl) (by intro x hx;obtain ⟨q,_,rfl⟩:=List.mem_map.1 hx;rfl) (by intro t ht;simp at ht;first|(rcases ht with rfl|rfl<;>simp [cxOf,cxY]<;>done)|(subst ht;simp [cxOf,cxY])) ?_ ?_ ?_
  ·intro xs x1 hpre hgd l1 r1
   rw [hG] at hgd
   obtain rfl:xs= []:=Classical.byContradiction hgd
   obtain ⟨ys,q,zs,hys,rfl,hzl⟩:=zcS hpre
   have hys0:ys= []:=by cases ys with|nil=>rfl|cons q r=>simp at hys
   subst hys0
   rw [htb,List.nil_append,List.cons.injEq] at hzl
   obtain ⟨rfl,rfl⟩:=hzl
   simp only [freeI]
   have hb:(F.2 !=0)=true:=by simpa using hf
   refine aw_le ⟨[(13,true,.d (.int .i64 0)),(14,true,.d (.int .i64 F.2)),(2,true,.vp 1 0),(3,true,.vp 2 0)],[(0,.var (nC [])),(2,.var [.d (.int .i64 0)]),(1,.var [.nils 1])],some []⟩ (by rw [hI];simp only [AS.le,leT,leH,zf,AsgK,AV.le,AV.leL,AObj.le,inH,idsT,idsH,AV.ids,AV.idsL,AV.idsR,AObj.ids,lk,hget,go_sem,aeq,aeq.aeqF,simprocAttr]) ?_
   refine' zaO hb
   rw [hJ]
   exact ⟨rfl,rfl,_,F.2,hac,rfl⟩
  ·intro hgd
   rw [hG,htb] at hgd
   exact absurd rfl (fun _:(1:Nat)=1=>hgd (by simp))
  ·rw [hJ]
   rintro c h3 g3 ⟨rfl,rfl,cs,e,he,rfl⟩
   refine' zaO fx
   rw [he]
   rfl
@[go_sem] noncomputable def zek:Ent Tryz.prog 79:= .m1 zbG zrv
open Go Go.Proofs
theorem zrw (x:Img) (hp:ImgF x/\0<=x.geom.host):AC 25 [imgA x] (.tup [.d (.sl 3 ((zaG x).1.map fndD)),.d (.int .i64 (zaG x).2)]):=by
 obtain ⟨h,hh⟩:=hp;refine fbod Tryz.func25 Tryz.ntmps25 (λbase=>?_);have hdp:DP x.disk p0:=⟨h.disk,zaw⟩
 obtain ⟨C,hC⟩:∃C,C=zba x:=⟨_,rfl⟩
 obtain ⟨H,hH⟩:∃H,H=rall x.disk p0 x.geom.host:=⟨_,rfl⟩
 have hac:zaG x=if C.2≠0 then ([],C.2) else if H.2≠0 then ([],H.2) else (fnds 0 C.1 H.1,0):=by rw [zaG,hC,hH]
 refine' walkW (zn hC.symm hH.symm) (za zek <| za ze7 <| zb _)
 ·rw [hac,if_pos (bneP hc)];rfl
 ·rename_i h0;rw [hac,if_neg (bneN h0),if_pos (bneP hc)];rfl
 rename_i h0;have hCe:C.2=0:=by simpa using bneN h0
 have hHe:H.2=0:=by simpa using bneN hc
 rw [if_neg (bneN h0),if_neg (bneN hc)] at hac
 have hln:C.1.length=H.1.length:=by have h1:=zhx (x:=x) (by rw [<-hC];exact hCe);have h2:=zvN (d:=x.disk) (p:=p0) (n:=x.geom.host) (by rw [<-hH];exact hHe);rw [<-hC] at h1;rw [<-hH] at h2;omega
 have hcl:C.1.length<=1000000:=by have h1:=zhx (x:=x) (by rw [<-hC];exact hCe);have h2:=h.host;rw [<-hC] at h1;omega
 refine zds 7 3 rfl ?_;simp only [fresh,top,hget, ↓reduceIte];refine zq (λq: { q:Nat×List Fnd // q.1<=H.1.length/\q.2.length<=q.1/\fnds 0 C.1 H.1=q.2++fnds q.1 (C.1.drop q.1) (H.1.drop q.1) } =>⟨[(4,true,.d (.sl 1 (C.1.map intD))),(7,true,.osl 1 3 q.1.2.length 0 q.1.2.length),(31,true,.d (.sl 1 (H.1.map intD))),(32,true,.d (.int .i64 H.1.length)),(33,true,.d (.int .i64 q.1.1))],[(1,.arr 3 (q.1.2.map fndD))],some []⟩) (λq=>H.1.length - q.1.1) ⟨(0,[]),Nat.zero_le _,Nat.le_refl _,rfl⟩ le1 (λq=>?_);obtain ⟨⟨i,l⟩,hi,hlen,hl⟩:=q;simp only at hi hlen hl ⊢;rcases zP intD H.1 i hi with ⟨v,hq,hlt,hcmp,hrow,hdr,htk⟩|⟨hend,hcmp⟩
 ·obtain ⟨w,hv⟩:=zas (l:=C.1) (i:=i) (by omega);have hrow2:=zco (g:=intD) hv;simp only [intD] at hrow hrow2;have hwi:=zr (i:=i) (by omega);have hlc:((C.1.length:Nat):Int)=(H.1.length:Int):=by omega
  rw [hdr,zcQ hv,zm9] at hl;by_cases e:v=w
  ·have hb:(v !=w)=false:=by simp [e]
   rw [if_neg (by simpa using e),List.nil_append] at hl;refine' walkW (zbj hcmp hrow hrow2 hb natC) (za zek <| za ze7 <| zb _);exact ⟨⟨(i+1,l),by omega,by simp only;omega,hl⟩,lew,by simp;omega⟩
  ·have hb:(v !=w)=true:=by simpa using e
   rw [if_pos e,<-List.append_assoc] at hl;refine' walkW (zbj hcmp hrow hrow2 hb natC) (za zek <| za ze7 <| zb _);exact ⟨⟨(i+1,l++ [⟨i,w,v⟩]),by omega,by simp;omega,hl⟩,by simp only [List.map_append,List.length_append,List.length_singleton];simp only [AS.le,leT,leH,zf,AsgK,AV.le,AV.leL,AObj.le,inH,idsT,idsH,AV.ids,AV.idsL,AV.idsR,AObj.ids,lk,hget,go_sem,aeq,aeq.aeqF,simprocAttr,hwi]<;>and_intros<;>rfl,by simp;omega⟩
 ·refine' walkW hcmp (za zek <| za ze7 <| zb _);rw [hac,hl,hend,List.drop_length];cases h9:C.1.drop H.1.length with
  |nil=>simp [fnds]
  |cons a l=>simp [fnds]
@[go_sem] noncomputable def zN:Ent Tryz.prog 25:= .m1 zbG zrw
theorem zt7 (f:Fnd) (_:True):AC 72 [fndA f] (.d (.bool (decide (f.have_<f.want)))):=by refine fbod Tryz.func72 Tryz.ntmps72 (λbase=>?_);refine' zc fx
@[go_sem] noncomputable def zoX:Ent Tryz.prog 72:= .m1 zwt zt7
theorem zt8 (l:List Fnd) (hl:l.length<=9223372036854775807):ACall Tryz.prog 152 0 [.d (.sl 3 (l.map fndD)),.fn (.func 72) [] []] [] (λr _=>r= .d (.int .i64 (idxP (λf=>decide (f.have_<f.want)) l 0))):=by
 refine bod Tryz.func152 Tryz.ntmps152 (λbase=>?_);refine' zc fx;refine zq (λq:Idst (λf=>decide (f.have_<f.want)) l=>⟨[(0,true,.d (.sl 3 (l.map fndD))),(1,true,.fn (.func 72) [] []),(7,true,.d (.int .i64 l.length)),(8,true,.d (.int .i64 q.1))],[],some []⟩) (λq=>l.length - q.1) ⟨0,Nat.zero_le _,rfl⟩ le1 (λq=>?_);obtain ⟨i,hi,hf⟩:=q;simp only at hi hf ⊢;rcases zP fndD l i hi with ⟨⟨m,s,u⟩,hq,hlt,hcmp,hrow,hdr,htk⟩|⟨hend,hcmp⟩
 ·simp only [fndD] at hrow;have hwi:=zr (i:=i) (by omega);refine' walkW (zn hcmp hrow) (za zoX <| zb _)
  ·rw [hf,hdr,idxP,if_pos (by simpa using hc)]
  ·exact ⟨⟨i+1,by omega,by rw [hf,hdr,idxP,if_neg (by simpa using hc)]⟩,lew,by simp;omega⟩
 ·refine' zc hcmp;rw [hf,hend,List.drop_length];rfl
@[go_sem] noncomputable def zoY:Ent Tryz.prog 152:= .ofL (consL (slT 3 fndD zej) (consL (fnT 72 nilL) nilL)) (λ(l,_,_)=>l.length<=9223372036854775807) (λ(l,_,_)=> .d (.int .i64 (idxP (λf=>decide (f.have_<f.want)) l 0))) (λ(l,_,_) hp=>⟨rfl,zt8 l hp⟩)
theorem zt9 (l:List Fnd) (hl:l.length<=9223372036854775807):ACall Tryz.prog 71 0 [.d (.sl 3 (l.map fndD)),.fn (.func 72) [] []] [] (λr _=>r= .d (.bool (l.any (λf=>decide (f.have_<f.want))))):=by refine bod Tryz.func71 Tryz.ntmps71 (λbase=>?_);refine' walkW fx (za zoY <| zb _);rw [zhg]
@[go_sem] noncomputable def zjx:Ent Tryz.prog 71:= .ofL (consL (slT 3 fndD zej) (consL (fnT 72 nilL) nilL)) (λ(l,_,_)=>l.length<=9223372036854775807) (λ(l,_,_)=> .d (.bool (l.any (λf=>decide (f.have_<f.want))))) (λ(l,_,_) hp=>⟨rfl,zt9 l hp⟩)
theorem zrx (x:Img) (hp:ImgF x/\0<=x.geom.host):AC 22 [imgA x] (.d (.bool (zgf x))):=by
 obtain ⟨h,hh⟩:=hp;refine fbod Tryz.func22 Tryz.ntmps22 (λbase=>?_);have hcl:=zf6 h;obtain ⟨C,hC⟩:∃C,C=zaG x:=⟨_,rfl⟩
 rw [<-hC] at hcl;have haw:zgf x=(!(C.1.any λf=>decide (f.have_<f.want))&&(C.2==0)):=by rw [zgf,hC]
 cases hb:C.2==0 with
 |true=>
  refine' walkW (zn hC.symm hb) (za zN <| za zjx <| zb _);all_goals first|omega|(rw [haw,hb,Bool.and_true])
 |false=>
  refine' walkW (zn hC.symm hb) (za zN <| za zjx <| zb _);all_goals first|omega|(rw [haw,hb,Bool.and_false])
@[go_sem] noncomputable def zai:Ent Tryz.prog 22:= .m1 zbG zrx
theorem zoZ (x:Img) (hp:ImgF x/\0<=x.geom.host):AC 75 [imgA x] (.tup [imgA (amend x).1,.d (.int .i64 (amend x).2)]):=by
 obtain ⟨h,hh⟩:=hp;refine fbod Tryz.func75 Tryz.ntmps75 (λbase=>?_);have hcl:=zf6 h;have hcr:=λf=>zhy (x:=x) (f:=f);obtain ⟨C,hC⟩:∃C,C=zaG x:=⟨_,rfl⟩
 rw [<-hC] at hcl hcr;have ham:amend x=if x.broken then (x,24) else if C.2≠0 then (x,C.2) else if (addsK x.disk C.1 p0).2≠0 then (x,(addsK x.disk C.1 p0).2) else cdone x (addsK x.disk C.1 p0).1:=by rw [amend,hC]
 have hnil:C.2≠0->C.1= []:=by
  intro h0;rw [hC] at h0 ⊢;unfold zaG at h0 ⊢;split
  ·rfl
  split
  ·rfl
  ·rename_i h1 h2;rw [if_neg h1,if_neg h2] at h0;exact absurd rfl h0
 refine' walkW hC.symm (za zN <| za zW <| za zp <| zb _)
 ·rw [ham,if_pos hc]
 rw [if_neg (by rw [hc];decide)] at ham;refine zq (λq: { q:Nat×Plan×Int // q.1<=C.1.length/\DP x.disk q.2.1/\(C.2≠0->q.2.2=C.2)/\(C.2=0->q.2.2=0->addsK x.disk C.1 p0=addsK x.disk (C.1.drop q.1) q.2.1)/\(C.2=0->q.2.2≠0->(addsK x.disk C.1 p0).2=q.2.2) } =>⟨[(1,true,.vp 0 0),(2,true,.vp 1 0),(5,true,.d (.int .i64 q.1.2.2)),(6,true,.vp 2 0),(17,true,.d (.sl 3 (C.1.map fndD))),(18,true,.d (.int .i64 C.1.length)),(19,true,.d (.int .i64 q.1.1))],[(2,(.var [.d (.sl 1 (q.1.2.1.targets.map intD)),.d (.sl 1 (q.1.2.1.texts.map strD))])),(1,.var img0),(0,.var (imgV x))],some []⟩) (λq=>C.1.length - q.1.1) ⟨(0,p0,C.2),Nat.zero_le _,⟨h.disk,zaw⟩,λ_=>rfl,λ_ _=>rfl,λh1 h2=>absurd h1 h2⟩ le1 (λq=>?_);obtain ⟨⟨i,p,e⟩,hi,hp,h1,h2,h3⟩:=q;simp only at hi hp h1 h2 h3 ⊢;rcases zP fndD C.1 i hi with ⟨u,hq,hlt,hcmp,hrow,hdr,htk⟩|⟨hend,hcmp⟩
 ·have hur:=hcr u (List.mem_of_getElem? hq);simp only [fndD] at hrow;have hwi:=zr (i:=i) (by omega)
  have hC0:C.2=0:=by refine Classical.byContradiction (λh9=>?_);rw [hnil h9] at hlt;exact absurd hlt (by simp)
  have hws:IntKind.i64.wrap (u.want - u.have_)=u.want - u.have_:=zg (by omega) (by omega);by_cases he:e=0
  ·have hb:(e==0)=true:=by simpa using he
   have ht:=h2 hC0 he;rw [hdr,addsK] at ht;have hpn:=hp.radd u.loc (u.want - u.have_);obtain ⟨A,hA⟩:∃A,A=radd x.disk p u.loc (u.want - u.have_):=⟨_,rfl⟩
   rw [<-hA] at ht hpn;refine' walkW (zbj hcmp hrow hws hA.symm hb) (za zN <| za zW <| za zp <| zb _);exact ⟨⟨(i+1,A.1,A.2),by omega,hpn,λh9=>absurd hC0 h9,λ_ (h9:A.2=0)=>by rw [ht,if_neg (by simpa using h9)],λ_ (h9:A.2≠0)=>by rw [ht,if_pos h9]⟩,lew,by simp;omega⟩
  ·have hb:(e==0)=false:=by simpa using he
   refine' walkW (zB hcmp hrow hb) (za zN <| za zW <| za zp <| zb _);exact ⟨⟨(i+1,p,e),by omega,hp,h1,λ_ h9=>absurd h9 he,h3⟩,lew,by simp;omega⟩
 ·have hok:=h.ok;have hs0:=h.seq0;have hs1:=h.seq1;have hdf:=h.disk;have hpf:=hp.p;by_cases he:e=0
  ·have hb:(e !=0)=false:=by simpa using he
   have hC0:C.2=0:=by refine Classical.byContradiction (λh9=>?_);exact h9 (by rw [<-h1 h9];exact he)
   have ht:=h2 hC0 he;rw [hend,List.drop_length] at ht;rw [if_neg (by simpa using hC0),ht,if_neg (by simp [addsK])] at ham;refine' walkW (zn hcmp hb) (za zN <| za zW <| za zp <| zb _);all_goals first|omega|skip
   rw [ham];rfl
  ·have hb:(e !=0)=true:=by simpa using he
   have ham2:amend x=(x,e):=by
    rw [ham];by_cases h9:C.2=0
    ·rw [if_neg (by simpa using h9),h3 h9 he,if_pos he]
    ·rw [if_pos h9,h1 h9]
   refine' walkW (zn hcmp hb) (za zN <| za zW <| za zp <| zb _);rw [ham2]
@[go_sem] noncomputable def zlJ:Ent Tryz.prog 75:= .m1 zbG zoZ
open Go Go.Proofs
theorem zxP {x:Img} (h:ImgF x):ImgF (amend x).1:=by
 unfold amend;repeat' split
 all_goals first|exact h|exact h.done _
def agood (x:Img):Bool:=decide ((x.disk.cache.length:Int)<=300)&&decide ((x.maps.length:Int)<=2)&&ifit x
theorem zxQ {x:Img} (h:ImgOk x) (hg:agood x=true):ImgF x/\8<=x.geom.host:=by unfold agood ifit at hg;simp only [Bool.and_eq_true,decide_eq_true_eq] at hg;obtain ⟨⟨g1,g2⟩,⟨⟨⟨⟨g3,g4⟩,g5⟩,g6⟩,g7⟩,g8⟩:=hg;rw [geo_iff] at g3;unfold dfit at g4;simp only [Bool.and_eq_true] at g4;unfold jfit at g6;simp only [Bool.and_eq_true,decide_eq_true_eq] at g6;exact ⟨⟨h,⟨h.disk,g4.1.2⟩,by omega,by omega,by omega,by omega,by omega⟩,by omega⟩
theorem zv5 (x:Img) (h:ImgOk x):AC 21 [imgA x] (.d (.bool (agood x))):=by refine fbod Tryz.func21 Tryz.ntmps21 (λbase=>?_);refine' walkW fx (za zau <| zb _);all_goals first|rfl|skip
@[go_sem] noncomputable def za6:Ent Tryz.prog 21:= .m1 zbG zv5
def aw18P:Plan×Int:=radd csmall.disk p0 5 1
def aw18X:Img:=(cdone csmall aw18P.1).1
def aw18Y:Img×Int:=amend aw18X
theorem zub:((zaG aw18X).2==0&&decide ((zaG aw18X).1= [⟨5,0,1⟩])&&zgf aw18X&&aw18Y.2==0&&(zaG aw18Y.1).2==0&&((zaG aw18Y.1).1.length:Int)==0&&(zag aw18Y.1 [97]).2.2==0&&(wipe aw18Y.1 1 true).2==0&&dfit aw18X.disk)=true:=by
 decide+kernel
theorem zuc:aw18X.geom.host=8/\aw18Y.1.geom.host=8:=by decide+kernel
theorem zud:ACall Tryz.prog 24 0 [] [] (λr _=>r= .d (.bool true)):=by
 have hS:=zt5;have hfin:=zub;have hhost:=zuc;obtain ⟨S,hSe⟩:∃S,S=csmall:=⟨_,rfl⟩
 have e1:aw18P=radd S.disk p0 5 1:=by rw [hSe];rfl
 obtain ⟨Pp,hPe⟩:∃P,P=aw18P:=⟨_,rfl⟩
 have e2:aw18X=(cdone S Pp.1).1:=by rw [hSe,hPe];rfl
 obtain ⟨X,hXe⟩:∃X,X=aw18X:=⟨_,rfl⟩
 have e3:aw18Y=amend X:=by rw [hXe];rfl
 obtain ⟨Y,hYe⟩:∃Y,Y=aw18Y:=⟨_,rfl⟩
 rw [<-hSe] at hS;rw [<-hPe] at e1;rw [<-hXe] at e2;rw [<-hYe] at e3;rw [<-hXe,<-hYe] at hfin hhost;have hX:ImgF X:=by rw [e2];exact hS.done _
 have hY:ImgF Y.1:=by rw [e3];exact zxP hX
 have hdp:DP S.disk p0:=⟨hS.disk,zaw⟩
 have hpf:pfit Pp.1=true:=by rw [e1];exact zlm zaw
 have hr18:(slT 3 fndD zej).un (.d (.sl 3 [[.int .i64 5,.int .i64 0,.int .i64 1]]))=some [⟨5,0,1⟩]:=zr1 3 fndD zej [⟨5,0,1⟩];have hr19:(slT 3 fndD zej).un (.d (.sl 3 [fndD ⟨5,0,1⟩]))=some [⟨5,0,1⟩]:=zr1 3 fndD zej [⟨5,0,1⟩];obtain ⟨hh1,hh2⟩:=hhost;have hh1':0<=X.geom.host:=by omega
 have hh2':0<=Y.1.geom.host:=by omega
 have hSo:=hS.ok;have hSd:=hS.disk;have hs0:=hS.seq0;have hs1:=hS.seq1;have hXd:=hX.disk.ok;have hcl:=zf6 hX;simp only [Bool.and_eq_true,beq_iff_eq,decide_eq_true_eq] at hfin;obtain ⟨⟨⟨⟨⟨⟨⟨⟨f1,f2⟩,f3⟩,f4⟩,f5⟩,f6⟩,f7⟩,f8⟩,f9⟩:=hfin;have f6':((zaG Y.1).1.length:Int)=0:=f6;refine fbod Tryz.func24 Tryz.ntmps24 (λbase=>?_)
 (have tk:=za zlI <| za zaT <| za zaC <| za zN <| za zlJ <| za zjR <| za zm6 <| za zoJ <| za zai <| za zey <| zb Tryz.prog);repeat' (first|((first|(refine sa ?_;intro K hK)|refine sb ?_);simp only [go_sem,aeq,aeq.aeqF,simprocAttr,<-hSe,hr18,hr19,eq_self,<-e1,<-e2,<-e3,f1,f2,f3,f4,f5,f6',f7,f8,f9,Tryz.results24])|refine zaM (λK hK=>?_)|(refine hK _ ?_;clear hK K)|with_reducible refine And.intro ?_ ?_|omega|assumption|refine λ(hg:(_:Bool)=(_:Bool))=>?_|clear hK K)
@[go_sem] noncomputable def zaL:Ent Tryz.prog 24:= .ofL nilL (λ_=>True) (λ_=> .d (.bool true)) (λ_ hp=>⟨rfl,zud⟩)
open Go Go.Proofs
theorem ImgF.create {x:Img} (h:ImgF x) (n:Txt):ImgF (zag x n).1:=by
 have hE:∀id q,ImgF (zdw x id q).1:=by intro id q;unfold zdw;split;exact h;split<;>exact h.done _
 have hD:∀r q,ImgF (zdx x r q).1:=by intro r q;unfold zdx;split;exact h;exact hE _ _
 have hC:∀n r a k q,ImgF (zdy x n r a k q).1:=by intro n r a k q;unfold zdy;split;exact h;exact hD _ _
 have hB:∀n r a k q,ImgF (zdz x n r a k q).1:=by intro n r a k q;unfold zdz;split;exact h;exact hC _ _ _ _ _
 have hA:∀n r a q,ImgF (zcI x n r a q).1:=by intro n r a q;unfold zcI;split;exact h;exact hB _ _ _ _ _
 unfold zag;repeat (split;exact h)
 exact hA _ _ _ _
theorem ImgF.delete {x:Img} (h:ImgF x) (id:Int):ImgF (zbB x id).1:=by
 have hC:∀q,ImgF (sdelC x q).1:=by intro q;unfold sdelC;split;exact h;exact h.done _
 have hB:∀i q,ImgF (sdelB x i q).1:=by intro i q;unfold sdelB;split;exact h;exact hC _
 have hA:∀i k q,ImgF (sdelA x i k q).1:=by intro i k q;unfold sdelA;split;exact h;exact hB _ _
 unfold zbB;repeat (split;exact h)
 exact hA _ _ _
theorem ImgF.revert {x:Img} (h:ImgF x) (id:Int):ImgF (zbC x id).1:=by
 have hC:∀q:Plan,ImgF (srevC x (cdone x q)).1:=by intro q;unfold srevC;split;exact h.done _;exact (h.done _).marks _
 have hB:∀q,ImgF (srevB x q).1:=by intro q;unfold srevB;split;exact h;exact hC _
 have hA:∀k r q,ImgF (srevA x k r q).1:=by intro k r q;unfold srevA;split;exact h;exact hB _
 have h0:∀k r q,ImgF (srev0 x k r q).1:=by intro k r q;unfold srev0;split;exact h;exact hA _ _ _
 unfold zbC;repeat (split;exact h)
 exact h0 _ _ _
theorem zxR {n:Nat} {x:List D} (h:DTy Tryz.prog (n+1) 34 x):∃a:Int,x= [.int .u32 a]/\0<=a/\a<=4294967295:=by unfold DTy at h;simp only [ty34] at h;obtain ⟨a,rfl,h1,h2⟩:=h;exact ⟨a,rfl,h1,h2⟩
theorem zxS (n:Int):argAV Tryz.prog 34 [.int .u32 n]= .d (.int .u32 n):=by simp only [argAV,ty34]
end Go.Aw
