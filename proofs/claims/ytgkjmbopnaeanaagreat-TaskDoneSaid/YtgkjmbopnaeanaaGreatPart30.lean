/-
 Images, the program's: comparisons, marks, plans that last.
-/
import Derived.Test.YtgkjmbopnaeanaaGreatPart28
import Derived.Test.YtgkjmbopnaeanaaGreatPart25
set_option maxRecDepth 100000
set_option maxHeartbeats 2000000
set_option linter.unusedSimpArgs false
set_option linter.unusedVariables false
namespace Go.Aw
open Go Go.Proofs
theorem znO {d:Disk} {j:Jour} {p:Plan} (h:(jcommit d j p).2.2≠0):(jcommit d j p).2.1=j:=by
 unfold jcommit jtail at h ⊢
 repeat' split at h
 all_goals simp_all
 all_goals rw [if_neg (by omega)]
theorem zqw (x:Img) (p:Plan) (hp:ImgOk x∧DiskF x.disk∧pfit p=true∧0≤x.jour.seq∧x.jour.seq<18446744073709551616):AC 164 [imgA x,planA p] (.tup [imgA (cdone x p).1,.d (.int .i64 (cdone x p).2)]):=by
 obtain ⟨h,hd,hf,h0,h1⟩:=hp
 refine fbod Tryz.func164 Tryz.ntmps164 (fun base=>?_)
 refine' walkW fx (za zkC <| zb _)
 by_cases he:(jcommit x.disk x.jour p).2.2=0
 ·have hb:((jcommit x.disk x.jour p).2.2 !=0)=false:=by rw [he];rfl
  rw [cdone,if_neg (by omega),hb,he,Bool.or_false]
 ·have hb:((jcommit x.disk x.jour p).2.2 !=0)=true:=by simpa using he
  rw [cdone,if_pos he,hb,Bool.or_true,znO he]
@[go_sem] noncomputable def zE:Ent Tryz.prog 164:= .m2 zaO zN zqw
theorem ziv (l:List Dmap) (fl:Nat) (hl:l.length≤5000):ACall Tryz.prog 189 fl [.d (.sl 66 (l.map dmapD))] [] (fun r h'=>r= .osl fl 66 l.length 0 l.length∧h'= [(fl,.arr 66 (l.map dmapD))]):=by
 refine bod Tryz.func189 Tryz.ntmps189 (fun base=>?_)
 refine' zdS (zbh 2) fx
 ·refine zh noTab (zb _) (fun K hK=>?_);simp only [go_sem,aeq,aeq.aeqF,simprocAttr]
  (first|(refine hK _ ?_;clear hK K)|(clear hK K;refine hK _ ?_;clear hK K)|(clear hK K;clear hK K;refine hK _ ?_;clear hK K)|(clear hK K;clear hK K;clear hK K;refine hK _ ?_;clear hK K)|(clear hK K;clear hK K;clear hK K;clear hK K;refine hK _ ?_;clear hK K))
  refine zcg 2 66 rfl ?_
  have h0:l= []:=List.map_eq_nil_iff.1 (hnb hc)
  subst h0
  refine' zc fx
  all_goals rfl
theorem zqx (x:Img) (guest:Int) (hp:ImgOk x∧x.maps.length≤5000):AC 151 [imgA x,.d (.int .i64 guest)] (imgA (cmark x guest)):=by
 obtain ⟨h,h2⟩:=hp
 refine fbod Tryz.func151 Tryz.ntmps151 (fun base=>?_)
 by_cases hg:guest<0∨64≤guest
 ·have hdec:(decide (0≤guest)&&decide (guest<64))=false:=by
   rw [Bool.and_eq_false_iff,decide_eq_false_iff_not,decide_eq_false_iff_not];omega
  refine' zc hdec
  rw [cmark,if_pos hg]
 ·have hdec:(decide (0≤guest)&&decide (guest<64))=true:=by
   rw [Bool.and_eq_true,decide_eq_true_eq,decide_eq_true_eq];omega
  obtain ⟨g,rfl⟩:∃g:Nat,guest=g:=⟨guest.toNat,by omega⟩
  have hg2:g<64:=by omega
  refine' zc hdec
  refine ((ziv x.maps 2 h2).own rfl rfl (Nat.zero_le _) (by rintro r h' ⟨_,rfl⟩;rfl)).mono ?_
  rintro r h' ⟨h1,⟨rfl,rfl⟩,rfl⟩
  simp only [go_sem,aeq,aeq.aeqF,simprocAttr]
  refine' zc fx
  refine zo (fun q: { i:Nat // i≤x.maps.length } =>⟨[(1,true,.d (.int .i64 g)),(2,true,.vp 0 0),(4,true,.vp 1 0),(18,true,.d (.int .i64 x.maps.length)),(19,true,.d (.int .i64 q.1))],[(2,.arr 66 (((x.maps.take q.1).map (mset g)++x.maps.drop q.1).map dmapD)),(1,.var img0),(0,.var [.d (.str x.disk.data),.d (.sl 2 (x.disk.cache.map putD)),.d (.int .i64 x.disk.fuse),.d (.bool x.disk.off),.d (.sl 1 (x.disk.bad.map intD)),.d (.int .i64 x.geom.guest),.d (.int .i64 x.geom.host),.d (.int .u64 x.jour.seq),.d (.int .i64 x.jour.pos),.osl 2 66 x.maps.length 0 x.maps.length,.d (.bool x.broken)])],some []⟩) (fun q=>x.maps.length - q.1) ⟨0,Nat.zero_le _⟩ le1 (fun q=>?_)
  obtain ⟨i,hi⟩:=q
  simp only
  have hL:((x.maps.take i).map (mset g)++x.maps.drop i).length=x.maps.length:=by simp;omega
  rcases Nat.lt_or_ge i x.maps.length with hlt|hge
  ·obtain ⟨m,hq⟩:=zai hlt
   have hcmp:decide ((i:Int)<(x.maps.length:Int))=true:=decide_eq_true (by omega)
   have hwi:=zn (i:=i) (by omega)
   have hL1:((x.maps.take i).map (mset g)).length=i:=by simp;omega
   have hat:((x.maps.take i).map (mset g)++x.maps.drop i)[i]?=some m:=by rw [List.getElem?_append_right (by omega),hL1,Nat.sub_self,List.getElem?_drop,Nat.add_zero,hq]
   have hrow:=za1 (g:=dmapD) hat
   have hset:((x.maps.take i).map (mset g)++x.maps.drop i).set i (mset g m)=(x.maps.take (i+1)).map (mset g)++x.maps.drop (i+1):=by
    rw [List.set_append,if_neg (by omega),hL1,Nat.sub_self,zdQ hq,zcz hq,List.map_append,List.append_assoc]
    rfl
   refine' zc (zr hcmp hL hrow)
   have hnew:(((x.maps.take i).map (mset g)++x.maps.drop i).map dmapD).set i ((dmapD m).set (2+g*1) (.bool true))=((x.maps.take (i+1)).map (mset g)++x.maps.drop (i+1)).map dmapD:=by
    rw [Nat.mul_one,zpb,← List.map_set,hset]
   exact ⟨⟨i+1,by omega⟩,by simp only [AS.le,leT,leH,zf,AsgK,AV.le,AV.leL,AObj.le,inH,idsT,idsH,AV.ids,AV.idsL,AV.idsR,AObj.ids,lk,hget,go_sem,aeq,aeq.aeqF,simprocAttr,hwi,hnew],by simp;omega⟩
  ·have hcmp:decide ((i:Int)<(x.maps.length:Int))=false:=decide_eq_false (by omega)
   refine' zc (zk hcmp hL)
   rw [cmark,if_neg hg,show i=x.maps.length by omega,List.take_length,List.drop_length,List.append_nil,List.take_of_length_le (by simp)]
   rfl
@[go_sem] noncomputable def zbn:Ent Tryz.prog 151:= .m2 zaO (intT .i64) zqx
def sectI (k:Int):List (Int×Int):= [(96+2*k,0),(96+2*k+1,64)]
def zav (q:Int×Int):List AV:= [.d (.int .i64 q.1),.d (.int .i64 q.2)]
abbrev Scst (k:Int):= { q:Nat×List (List AV) // q.1≤2∧q.2++((sectI k).drop q.1).map zav=(sectI k).map zav }
theorem zf6 (fl:Nat) (k:Int) (h0:0≤k) (h1:k≤1000):AIter Tryz.prog 184 fl [] [.dp [.d (.int .i64 k)]] [] ((sectI k).map zav) (fun g h'=>(∀xs,g=some xs→xs=(sectI k).map zav)∧h'= []):=by
 refine itr Tryz.func184 Tryz.ntmps184 (fun base y=>?_)
 refine' zaz fx
 refine zo (fun q:Scst k=>⟨[(0,true,.fn (.yield y.yl) [] []),(1,true,.dp [.d (.int .i64 k)]),(4,true,.d (.int .i64 q.1.1))],[],some q.1.2⟩) (fun q=>2 - q.1.1) ⟨(0,[]),Nat.zero_le _,rfl⟩ le1 (fun q=>?_)
 obtain ⟨⟨i,xs⟩,hi,hf⟩:=q
 simp only at hi hf ⊢
 have hc0:((0:Nat):Int)=0:=rfl
 have hc1:((1:Nat):Int)=1:=rfl
 have hc2:((2:Nat):Int)=2:=rfl
 have hw1:IntKind.i64.wrap 1=1:=by decide
 have hw2:IntKind.i64.wrap 2=2:=by decide
 have hw64:IntKind.i64.wrap 64=64:=by decide
 have hwz:IntKind.i64.wrap 0=0:=by decide
 have hwk:IntKind.i64.wrap (96+2*k+0)=96+2*k:=by rw [Int.add_zero];exact ze (by omega) (by omega)
 have hwk1:IntKind.i64.wrap (96+2*k+1)=96+2*k+1:=ze (by omega) (by omega)
 have h3:i=0∨i=1∨i=2:=by omega
 rcases h3 with rfl|rfl|rfl
 ·have hpre:(xs++ [zav (96+2*k,0)])<+:(sectI k).map zav:=by rw [← hf];exact ⟨[zav (96+2*k+1,64)],by simp [sectI]⟩
  simp only [zav] at hpre
  refine' walkX (zS hc0 hw1 hwz hwk) (za zck <| zb _)
  exact ⟨⟨(1,xs++ [zav (96+2*k,0)]),by show (1:Nat)≤2;omega,by rw [← hf];simp [sectI]⟩,by simp only [AS.le,leT,leH,zf,AsgK,AV.le,AV.leL,AObj.le,inH,idsT,idsH,AV.ids,AV.idsL,AV.idsR,AObj.ids,lk,hget,go_sem,aeq,aeq.aeqF,simprocAttr,zav]<;>and_intros<;>rfl,by simp⟩
 ·have hpre:(xs++ [zav (96+2*k+1,64)])<+:(sectI k).map zav:=by rw [← hf];exact ⟨[],by simp [sectI]⟩
  simp only [zav] at hpre
  refine' walkX (zS hc1 hw2 hw64 hwk1) (za zck <| zb _)
  exact ⟨⟨(2,xs++ [zav (96+2*k+1,64)]),by show (2:Nat)≤2;omega,by rw [← hf];simp [sectI]⟩,by simp only [AS.le,leT,leH,zf,AsgK,AV.le,AV.leL,AObj.le,inH,idsT,idsH,AV.ids,AV.idsL,AV.idsR,AObj.ids,lk,hget,go_sem,aeq,aeq.aeqF,simprocAttr,zav]<;>and_intros<;>rfl,by simp⟩
 ·refine' walkX hc2 (za zck <| zb _)
  rintro zs rfl
  simpa [sectI] using hf
theorem zqy (k:Int) (_:True):AC 149 [.d (.int .i64 k)] (.fn (.func 184) [] [.dp [.d (.int .i64 k)]]):=by
 refine fbod Tryz.func149 Tryz.ntmps149 (fun base=>?_)
 refine' zc fx
@[go_sem] noncomputable def zy:Ent Tryz.prog 149:= .m1 (intT .i64) zqy
def rdA (d:Disk) (k:Int):Nat→Txt
 |0=> []
 |1=>(dread d (96+2*k)).1
 |_=>(dread d (96+2*k)).1++(dread d (96+2*k+1)).1
@[go_sem] theorem rdA_0 (d:Disk) (k:Int):rdA d k 0= []:=rfl
def rdG (d:Disk) (k:Int):Nat→Prop
 |0=>True
 |1=>(dread d (96+2*k)).2=0
 |_=>(dread d (96+2*k)).2=0∧(dread d (96+2*k+1)).2=0
theorem zgY {k:Int} {ys zs:List (Int×Int)} {q:Int×Int} (h:sectI k=ys++q::zs):(ys= []∧q=(96+2*k,0))∨(ys= [(96+2*k,0)]∧q=(96+2*k+1,64)):=by
 match ys,h with
 | [],h=>simp only [sectI,List.nil_append,List.cons.injEq] at h;exact .inl ⟨rfl,h.1.symm⟩
 | [a],h=>simp only [sectI,List.cons_append,List.nil_append,List.cons.injEq] at h;exact .inr ⟨by rw [h.1],h.2.1.symm⟩
 |a::b::r,h=>
  exfalso
  have:=congrArg List.length h
  simp [sectI] at this
theorem zqz (d:Disk) (l1 guest:Int) (h:DiskF d):AC 119 [diskA d,.d (.int .i64 l1),.d (.int .i64 guest)] (.tup [.d (.str (cread d l1 guest).1),.d (.int .i64 (cread d l1 guest).2)]):=by
 refine fbod Tryz.func119 Tryz.ntmps119 (fun base=>?_)
 have hdp:DP d p0:=⟨h,zcc⟩
 have hk1:(elook d p0 l1 guest).1.kind=1→zV (elook d p0 l1 guest).1.loc=true:=zfF
 refine' walkR fx (za zB <| za zah <| za zy <| za zv <| zb _)
 ·rw [cread,if_pos (bneP hc)]
 ·rename_i hc0
  rw [cread,if_neg (bneN hc0),if_neg (bneP hc)]
  rfl
 rename_i hc0
 have hkk:(elook d p0 l1 guest).1.kind=1:=Classical.byContradiction (fun h=>bneN hc h)
 have hrd:cread d l1 guest=zch d (elook d p0 l1 guest).1.loc:=by rw [cread,if_neg (bneN hc0),if_pos hkk]
 have hho:=hostOk_iff.1 (hk1 hkk)
 have hcl:zch d (elook d p0 l1 guest).1.loc=if (dread d (96+2*(elook d p0 l1 guest).1.loc)).2≠0 then ([],(dread d (96+2*(elook d p0 l1 guest).1.loc)).2) else if (dread d (96+2*(elook d p0 l1 guest).1.loc+1)).2≠0 then ([],(dread d (96+2*(elook d p0 l1 guest).1.loc+1)).2)
   else ((dread d (96+2*(elook d p0 l1 guest).1.loc)).1++(dread d (96+2*(elook d p0 l1 guest).1.loc+1)).1,0):=rfl
 rw [hcl] at hrd
 clear hcl hc0 hc
 revert hkk hho hrd
 generalize (elook d p0 l1 guest).1.loc=k
 intro hkk hcl hho
 have hdo:=h.ok
 have hl1:=zdV (at_:=96+2*k) h.puts
 have hl2:=zdV (at_:=96+2*k+1) h.puts
 obtain ⟨I,hI⟩:∃I:List (List AV)→AHeap×Option (List (List AV)),I=fun xs=>([(4,.var [.d (.str (rdA d k xs.length))]),(2,.var [.d (.int .i64 0)]),(1,.var [.d (.str [])]),(0,(.var [.d (.str d.data),.d (.sl 2 (d.cache.map putD)),.d (.int .i64 d.fuse),.d (.bool d.off),.d (.sl 1 (d.bad.map intD))]))],some []):=⟨_,rfl⟩
 obtain ⟨G,hG⟩:∃G:List (List AV)→Prop,G=fun xs=>rdG d k xs.length:=⟨_,rfl⟩
 obtain ⟨J,hJ⟩:∃J:Code→AHeap→Option (List (List AV))→Prop,J=fun c h g=>c= .ret∧g=some []∧∃t e,cread d l1 guest=([],e)∧h= [(4,.var [.d (.str t)]),(2,.var [.d (.int .i64 e)]),(1,.var [.d (.str [])]),(0,(.var [.d (.str d.data),.d (.sl 2 (d.cache.map putD)),.d (.int .i64 d.fuse),.d (.bool d.off),.d (.sl 1 (d.bad.map intD))]))]:=⟨_,rfl⟩
 refine aw_le ⟨[(3,true,.vp 0 0),(6,true,.vp 1 0),(7,true,.vp 2 0),(10,true,.vp 4 0),(33,true,.fn (.func 184) [] [.dp [.d (.int .i64 k)]])],[(4,.var [.d (.str [])]),(2,.var [.d (.int .i64 0)]),(1,.var [.d (.str [])]),(0,(.var [.d (.str d.data),.d (.sl 2 (d.cache.map putD)),.d (.int .i64 d.fuse),.d (.bool d.off),.d (.sl 1 (d.bad.map intD))]))],some []⟩ le0 ?_
 refine zbz 100 G I J (zf6 100 k (by omega) (by omega)) (by simp only [go_sem,aeq,aeq.aeqF,simprocAttr]) rfl (z2 rfl) (by simp [cxOf,cxY]) rfl (by rw [hG];first|trivial|rfl|simp) (by rw [hI];simp only [AS.le,leT,leH,zf,AsgK,AV.le,AV.leL,AObj.le,inH,idsT,idsH,AV.ids,AV.idsL,AV.idsR,AObj.ids,lk,hget,go_sem,aeq,aeq.aeqF,simprocAttr]<;>simp [AV.leL,AV.le]) (by rw [hI];simp only [AS.le,leT,leH,zf,AsgK,AV.le,AV.leL,AObj.le,inH,idsT,idsH,AV.ids,AV.idsL,AV.idsR,AObj.ids,lk,hget,go_sem,aeq,aeq.aeqF,simprocAttr]<;>simp) (by rw [hI]<;>rfl) (by intro x hx;obtain ⟨q,_,rfl⟩:=List.mem_map.1 hx;rfl) (by intro t ht;simp at ht;first|(rcases ht with rfl|rfl<;>simp [cxOf,cxY]<;>done)|(subst ht;simp [cxOf,cxY])) ?_ ?_ ?_
 ·intro xs x hpre hgd l1 r1
  obtain ⟨ys,q,zs,hys,rfl,hzl⟩:=zdT hpre
  have hln:xs.length=ys.length:=by rw [hys];simp
  rw [hG] at hgd
  rcases zgY hzl with ⟨rfl,rfl⟩|⟨rfl,rfl⟩
  ·have hx0:xs= []:=by simpa using hys
   subst hx0
   simp only [zav]
   refine aw_le ⟨[(34,true,.d (.int .i64 (96+2*k))),(3,true,.vp 0 0),(6,true,.vp 1 0),(7,true,.vp 2 0),(10,true,.vp 4 0)],[(4,.var [.d (.str [])]),(2,.var [.d (.int .i64 0)]),(1,.var [.d (.str [])]),(0,(.var [.d (.str d.data),.d (.sl 2 (d.cache.map putD)),.d (.int .i64 d.fuse),.d (.bool d.off),.d (.sl 1 (d.bad.map intD))]))],some []⟩ (by rw [hI];simp only [AS.le,leT,leH,zf,AsgK,AV.le,AV.leL,AObj.le,inH,idsT,idsH,AV.ids,AV.idsL,AV.idsR,AObj.ids,lk,hget,go_sem,aeq,aeq.aeqF,simprocAttr,rdA]) ?_
   (have tk:=za zB <| za zah <| za zy <| za zv <| zb Tryz.prog);repeat' (first|((first|(refine sa ?_;intro K hK)|refine sb ?_);simp only [go_sem,aeq,aeq.aeqF,simprocAttr,hI,rdA,Tryz.results119])|refine zae (fun K hK=>?_)|refine sc ?_|refine zar rfl (fun hc=>?_) (fun hc=>?_)|(refine hK _ ?_;clear hK K)|((first|refine (show AS.le _ _ from ?_)|refine (show leH _ _ from ?_)|refine (show inH _ _ from ?_));simp only [AS.le,leT,leH,zf,AsgK,AV.le,AV.leL,AObj.le,inH,idsT,idsH,AV.ids,AV.idsL,AV.idsR,AObj.ids,lk,hget,go_sem,aeq,aeq.aeqF,simprocAttr,hI,rdA])|refine fun (r2:Rnd _)=>?_|with_reducible refine And.intro ?_ ?_|exact ‹_<+:_› |omega|assumption|clear hK K)
   ·rw [hJ]
    exact ⟨rfl,rfl,_,_,by rw [hcl,if_pos (bneP hc)],rfl⟩
   ·rw [hG]
    exact Classical.byContradiction (bneN hc)
  ·have hx1:xs= [zav (96+2*k,0)]:=by simpa using hys
   subst hx1
   simp only [zav]
   refine aw_le ⟨[(34,true,.d (.int .i64 (96+2*k+1))),(3,true,.vp 0 0),(6,true,.vp 1 0),(7,true,.vp 2 0),(10,true,.vp 4 0)],[(4,.var [.d (.str (dread d (96+2*k)).1)]),(2,.var [.d (.int .i64 0)]),(1,.var [.d (.str [])]),(0,(.var [.d (.str d.data),.d (.sl 2 (d.cache.map putD)),.d (.int .i64 d.fuse),.d (.bool d.off),.d (.sl 1 (d.bad.map intD))]))],some []⟩ (by rw [hI];simp only [AS.le,leT,leH,zf,AsgK,AV.le,AV.leL,AObj.le,inH,idsT,idsH,AV.ids,AV.idsL,AV.idsR,AObj.ids,lk,hget,go_sem,aeq,aeq.aeqF,simprocAttr,rdA]) ?_
   have h0:(dread d (96+2*k)).2=0:=hgd
   (have tk:=za zB <| za zah <| za zy <| za zv <| zb Tryz.prog);repeat' (first|((first|(refine sa ?_;intro K hK)|refine sb ?_);simp only [go_sem,aeq,aeq.aeqF,simprocAttr,hI,rdA,Tryz.results119])|refine zae (fun K hK=>?_)|refine sc ?_|refine zar rfl (fun hc=>?_) (fun hc=>?_)|(refine hK _ ?_;clear hK K)|((first|refine (show AS.le _ _ from ?_)|refine (show leH _ _ from ?_)|refine (show inH _ _ from ?_));simp only [AS.le,leT,leH,zf,AsgK,AV.le,AV.leL,AObj.le,inH,idsT,idsH,AV.ids,AV.idsL,AV.idsR,AObj.ids,lk,hget,go_sem,aeq,aeq.aeqF,simprocAttr,hI,rdA])|refine fun (r2:Rnd _)=>?_|with_reducible refine And.intro ?_ ?_|exact ‹_<+:_› |omega|assumption|clear hK K)
   ·rw [hJ]
    exact ⟨rfl,rfl,_,_,by rw [hcl,if_neg (by omega),if_pos (bneP hc)],rfl⟩
   ·rw [hG]
    exact ⟨h0,Classical.byContradiction (bneN hc)⟩
 ·intro hgd
  rw [hG] at hgd
  have hgd:(dread d (96+2*k)).2=0∧(dread d (96+2*k+1)).2=0:=hgd
  rw [hI]
  (have tk:=za zB <| za zah <| za zy <| za zv <| zb Tryz.prog);repeat' (first|((first|(refine sa ?_;intro K hK)|refine sb ?_);simp only [go_sem,aeq,aeq.aeqF,simprocAttr,sectI,rdA,Tryz.results119])|refine zae (fun K hK=>?_)|refine sc ?_|refine zar rfl (fun hc=>?_) (fun hc=>?_)|(refine hK _ ?_;clear hK K)|((first|refine (show AS.le _ _ from ?_)|refine (show leH _ _ from ?_)|refine (show inH _ _ from ?_));simp only [AS.le,leT,leH,zf,AsgK,AV.le,AV.leL,AObj.le,inH,idsT,idsH,AV.ids,AV.idsL,AV.idsR,AObj.ids,lk,hget,go_sem,aeq,aeq.aeqF,simprocAttr,sectI,rdA])|refine fun (r2:Rnd _)=>?_|with_reducible refine And.intro ?_ ?_|exact ‹_<+:_› |omega|assumption|clear hK K)
  rw [hcl,if_neg (by omega),if_neg (by omega)]
 ·rw [hJ]
  rintro c h3 g3 ⟨rfl,rfl,t,e,he,rfl⟩
  refine' walkR fx (za zB <| za zah <| za zy <| za zv <| zb _)
  rw [he]
@[go_sem] noncomputable def zF:Ent Tryz.prog 119:= .m3 zA (intT .i64) (intT .i64) zqz
end Go.Aw
