/-
  Parts of the proof: CowE, RefcC, CowF, CowG, CowH, CowL, CowM, CowQ, ViewA (short names; the readable texts lie in the repo, under wip).
-/
import Derived.Test.YtbmlikkofegdeaaGreatDoorPart30
import Derived.Test.YtbmlikkofegdeaaGreatDoorPart17
import Derived.Test.YtbmlikkofegdeaaGreatDoorPart25
import Derived.Test.YtbmlikkofegdeaaGreatDoorPart23
import Derived.Test.YtbmlikkofegdeaaGreatDoorPart28
import Derived.Test.YtbmlikkofegdeaaGreatDoorPart26
import Derived.Test.YtbmlikkofegdeaaGreatDoorPart29
import Derived.Test.YtbmlikkofegdeaaGreatDoorPart8
set_option maxRecDepth 100000
set_option maxHeartbeats 2000000
set_option linter.unusedSimpArgs false
set_option linter.unusedVariables false
namespace Go.Aw
open Go Go.Proofs
theorem zmT {d:Disk} {j:Jour} {p:Plan} (h:(jcommit d j p).2.2≠0):(jcommit d j p).2.1=j:=by
 unfold jcommit jtail at h ⊢
 repeat' split at h
 all_goals simp_all
 all_goals rw [if_neg (by omega)]
theorem zpo (x:Img) (p:Plan) (hp:ImgOk x∧DiskF x.disk∧pfit p=true∧0≤x.jour.seq∧x.jour.seq<18446744073709551616):AC 129 [imgA x,planA p] (.tup [imgA (cdone x p).1,.d (.int .i64 (cdone x p).2)]):=by
 obtain ⟨h,hd,hf,h0,h1⟩:=hp
 refine fbod Tryz.func129 Tryz.ntmps129 (fun base=>?_)
 refine' walkW fx (za zjT <| zb _)
 by_cases he:(jcommit x.disk x.jour p).2.2=0
 ·have hb:((jcommit x.disk x.jour p).2.2 !=0)=false:=by rw [he];rfl
  rw [cdone,if_neg (by omega),hb,he,Bool.or_false]
 ·have hb:((jcommit x.disk x.jour p).2.2 !=0)=true:=by simpa using he
  rw [cdone,if_pos he,hb,Bool.or_true,zmT he]
@[go_sem] noncomputable def zcA:Ent Tryz.prog 129:= .m2 zbD zw zpo
theorem zhZ (l:List Dmap) (fl:Nat) (hl:l.length≤5000):ACall Tryz.prog 144 fl [.d (.sl 66 (l.map dmapD))] [] (fun r h'=>r= .osl fl 66 l.length 0 l.length∧h'= [(fl,.arr 66 (l.map dmapD))]):=by
 refine bod Tryz.func144 Tryz.ntmps144 (fun base=>?_)
 refine' zb0 (zaN 2) fx
 ·refine zg noTab (zb _) (fun K hK=>?_);simp only [go_sem,aeq,aeq.aeqF,simprocAttr]
  (first|(refine hK _ ?_;clear hK K)|(clear hK K;refine hK _ ?_;clear hK K)|(clear hK K;clear hK K;refine hK _ ?_;clear hK K)|(clear hK K;clear hK K;clear hK K;refine hK _ ?_;clear hK K)|(clear hK K;clear hK K;clear hK K;clear hK K;refine hK _ ?_;clear hK K))
  refine zcq 2 66 rfl ?_
  have h0:l= []:=List.map_eq_nil_iff.1 (hnb hc)
  subst h0
  refine' zc fx
  all_goals rfl
theorem zpp (x:Img) (guest:Int) (hp:ImgOk x∧x.maps.length≤5000):AC 59 [imgA x,.d (.int .i64 guest)] (imgA (cmark x guest)):=by
 obtain ⟨h,h2⟩:=hp
 refine fbod Tryz.func59 Tryz.ntmps59 (fun base=>?_)
 by_cases hg:guest<0∨64≤guest
 ·have hdec:(decide (0≤guest)&&decide (guest<64))=false:=by
   rw [Bool.and_eq_false_iff,decide_eq_false_iff_not,decide_eq_false_iff_not];omega
  refine' zc hdec
  rw [cmark,if_pos hg]
 ·have hdec:(decide (0≤guest)&&decide (guest<64))=true:=by
   rw [Bool.and_eq_true,decide_eq_true_eq,decide_eq_true_eq];omega
  obtain ⟨g,rfl⟩:∃g:Nat,guest=g:=⟨guest.toNat,by omega⟩
  have hg2:g<64:=by omega
  refine' zc hdec
  refine ((zhZ x.maps 2 h2).own rfl rfl (Nat.zero_le _) (by rintro r h' ⟨_,rfl⟩;rfl)).mono ?_
  rintro r h' ⟨h1,⟨rfl,rfl⟩,rfl⟩
  simp only [go_sem,aeq,aeq.aeqF,simprocAttr]
  refine' zc fx
  refine zk (fun q: { i:Nat // i≤x.maps.length } =>⟨[(1,true,.d (.int .i64 g)),(2,true,.vp 0 0),(4,true,.vp 1 0),(18,true,.d (.int .i64 x.maps.length)),(19,true,.d (.int .i64 q.1))],[(2,.arr 66 (((x.maps.take q.1).map (mset g)++x.maps.drop q.1).map dmapD)),(1,.var img0),(0,.var [.d (.str x.disk.data),.d (.sl 2 (x.disk.cache.map putD)),.d (.int .i64 x.disk.fuse),.d (.bool x.disk.off),.d (.sl 1 (x.disk.bad.map intD)),.d (.int .i64 x.geom.guest),.d (.int .i64 x.geom.host),.d (.int .u64 x.jour.seq),.d (.int .i64 x.jour.pos),.osl 2 66 x.maps.length 0 x.maps.length,.d (.bool x.broken)])],some []⟩) (fun q=>x.maps.length - q.1) ⟨0,Nat.zero_le _⟩ le1 (fun q=>?_)
  obtain ⟨i,hi⟩:=q
  simp only
  have hL:((x.maps.take i).map (mset g)++x.maps.drop i).length=x.maps.length:=by simp;omega
  rcases Nat.lt_or_ge i x.maps.length with hlt|hge
  ·obtain ⟨m,hq⟩:=zam hlt
   have hcmp:decide ((i:Int)<(x.maps.length:Int))=true:=decide_eq_true (by omega)
   have hwi:=zn (i:=i) (by omega)
   have hL1:((x.maps.take i).map (mset g)).length=i:=by simp;omega
   have hat:((x.maps.take i).map (mset g)++x.maps.drop i)[i]?=some m:=by rw [List.getElem?_append_right (by omega),hL1,Nat.sub_self,List.getElem?_drop,Nat.add_zero,hq]
   have hrow:=zbk (g:=dmapD) hat
   have hset:((x.maps.take i).map (mset g)++x.maps.drop i).set i (mset g m)=(x.maps.take (i+1)).map (mset g)++x.maps.drop (i+1):=by
    rw [List.set_append,if_neg (by omega),hL1,Nat.sub_self,zcF hq,za9 hq,List.map_append,List.append_assoc]
    rfl
   refine' zc (zA hcmp hL hrow)
   have hnew:(((x.maps.take i).map (mset g)++x.maps.drop i).map dmapD).set i ((dmapD m).set (2+g*1) (.bool true))=((x.maps.take (i+1)).map (mset g)++x.maps.drop (i+1)).map dmapD:=by
    rw [Nat.mul_one,zn7,← List.map_set,hset]
   exact ⟨⟨i+1,by omega⟩,by simp only [AS.le,leT,leH,zj,AsgK,AV.le,AV.leL,AObj.le,inH,idsT,idsH,AV.ids,AV.idsL,AV.idsR,AObj.ids,lk,hget,go_sem,aeq,aeq.aeqF,simprocAttr,hwi,hnew],by simp;omega⟩
  ·have hcmp:decide ((i:Int)<(x.maps.length:Int))=false:=decide_eq_false (by omega)
   refine' zc (zp hcmp hL)
   rw [cmark,if_neg hg,show i=x.maps.length by omega,List.take_length,List.drop_length,List.append_nil,List.take_of_length_le (by simp)]
   rfl
@[go_sem] noncomputable def zdu:Ent Tryz.prog 59:= .m2 zbD (intT .i64) zpp
def sectI (k:Int):List (Int×Int):= [(96+2*k,0),(96+2*k+1,64)]
def zaS (q:Int×Int):List AV:= [.d (.int .i64 q.1),.d (.int .i64 q.2)]
abbrev Scst (k:Int):= { q:Nat×List (List AV) // q.1≤2∧q.2++((sectI k).drop q.1).map zaS=(sectI k).map zaS }
theorem zmU (fl:Nat) (k:Int) (h0:0≤k) (h1:k≤1000):AIter Tryz.prog 205 fl [] [.dp [.d (.int .i64 k)]] [] ((sectI k).map zaS) (fun g h'=>(∀xs,g=some xs→xs=(sectI k).map zaS)∧h'= []):=by
 refine itr Tryz.func205 Tryz.ntmps205 (fun base y=>?_)
 refine' zal fx
 refine zk (fun q:Scst k=>⟨[(0,true,.fn (.yield y.yl) [] []),(1,true,.dp [.d (.int .i64 k)]),(4,true,.d (.int .i64 q.1.1))],[],some q.1.2⟩) (fun q=>2 - q.1.1) ⟨(0,[]),Nat.zero_le _,rfl⟩ le1 (fun q=>?_)
 obtain ⟨⟨i,xs⟩,hi,hf⟩:=q
 simp only at hi hf ⊢
 have hc0:((0:Nat):Int)=0:=rfl
 have hc1:((1:Nat):Int)=1:=rfl
 have hc2:((2:Nat):Int)=2:=rfl
 have hw1:IntKind.i64.wrap 1=1:=by decide
 have hw2:IntKind.i64.wrap 2=2:=by decide
 have hw64:IntKind.i64.wrap 64=64:=by decide
 have hwz:IntKind.i64.wrap 0=0:=by decide
 have hwk:IntKind.i64.wrap (96+2*k+0)=96+2*k:=by rw [Int.add_zero];exact ze (by omega) (by omega)
 have hwk1:IntKind.i64.wrap (96+2*k+1)=96+2*k+1:=ze (by omega) (by omega)
 have h3:i=0∨i=1∨i=2:=by omega
 rcases h3 with rfl|rfl|rfl
 ·have hpre:(xs++ [zaS (96+2*k,0)])<+:(sectI k).map zaS:=by rw [← hf];exact ⟨[zaS (96+2*k+1,64)],by simp [sectI]⟩
  simp only [zaS] at hpre
  refine' walkX (z8 hc0 hw1 hwz hwk) (za zbN <| zb _)
  exact ⟨⟨(1,xs++ [zaS (96+2*k,0)]),by show (1:Nat)≤2;omega,by rw [← hf];simp [sectI]⟩,by simp only [AS.le,leT,leH,zj,AsgK,AV.le,AV.leL,AObj.le,inH,idsT,idsH,AV.ids,AV.idsL,AV.idsR,AObj.ids,lk,hget,go_sem,aeq,aeq.aeqF,simprocAttr,zaS]<;>and_intros<;>rfl,by simp⟩
 ·have hpre:(xs++ [zaS (96+2*k+1,64)])<+:(sectI k).map zaS:=by rw [← hf];exact ⟨[],by simp [sectI]⟩
  simp only [zaS] at hpre
  refine' walkX (z8 hc1 hw2 hw64 hwk1) (za zbN <| zb _)
  exact ⟨⟨(2,xs++ [zaS (96+2*k+1,64)]),by show (2:Nat)≤2;omega,by rw [← hf];simp [sectI]⟩,by simp only [AS.le,leT,leH,zj,AsgK,AV.le,AV.leL,AObj.le,inH,idsT,idsH,AV.ids,AV.idsL,AV.idsR,AObj.ids,lk,hget,go_sem,aeq,aeq.aeqF,simprocAttr,zaS]<;>and_intros<;>rfl,by simp⟩
 ·refine' walkX hc2 (za zbN <| zb _)
  rintro zs rfl
  simpa [sectI] using hf
theorem zpq (k:Int) (_:True):AC 146 [.d (.int .i64 k)] (.fn (.func 205) [] [.dp [.d (.int .i64 k)]]):=by
 refine fbod Tryz.func146 Tryz.ntmps146 (fun base=>?_)
 refine' zc fx
@[go_sem] noncomputable def zcB:Ent Tryz.prog 146:= .m1 (intT .i64) zpq
def rdA (d:Disk) (k:Int):Nat→Txt
 |0=> []
 |1=>(dread d (96+2*k)).1
 |_=>(dread d (96+2*k)).1++(dread d (96+2*k+1)).1
@[go_sem] theorem rdA_0 (d:Disk) (k:Int):rdA d k 0= []:=rfl
def rdG (d:Disk) (k:Int):Nat→Prop
 |0=>True
 |1=>(dread d (96+2*k)).2=0
 |_=>(dread d (96+2*k)).2=0∧(dread d (96+2*k+1)).2=0
theorem zpr {k:Int} {ys zs:List (Int×Int)} {q:Int×Int} (h:sectI k=ys++q::zs):(ys= []∧q=(96+2*k,0))∨(ys= [(96+2*k,0)]∧q=(96+2*k+1,64)):=by
 match ys,h with
 | [],h=>simp only [sectI,List.nil_append,List.cons.injEq] at h;exact .inl ⟨rfl,h.1.symm⟩
 | [a],h=>simp only [sectI,List.cons_append,List.nil_append,List.cons.injEq] at h;exact .inr ⟨by rw [h.1],h.2.1.symm⟩
 |a::b::r,h=>
  exfalso
  have:=congrArg List.length h
  simp [sectI] at this
theorem zps (d:Disk) (l1 guest:Int) (h:DiskF d):AC 62 [diskA d,.d (.int .i64 l1),.d (.int .i64 guest)] (.tup [.d (.str (cread d l1 guest).1),.d (.int .i64 (cread d l1 guest).2)]):=by
 refine fbod Tryz.func62 Tryz.ntmps62 (fun base=>?_)
 have hdp:DP d p0:=⟨h,zcw⟩
 have hk1:(elook d p0 l1 guest).1.kind=1→zH (elook d p0 l1 guest).1.loc=true:=zgp
 refine' walkR fx (za zdP <| za zbe <| za zcB <| za zbq <| zb _)
 ·rw [cread,if_pos (bneP hc)]
 ·rename_i hc0
  rw [cread,if_neg (bneN hc0),if_neg (bneP hc)]
  rfl
 rename_i hc0
 have hkk:(elook d p0 l1 guest).1.kind=1:=Classical.byContradiction (fun h=>bneN hc h)
 have hrd:cread d l1 guest=zbK d (elook d p0 l1 guest).1.loc:=by rw [cread,if_neg (bneN hc0),if_pos hkk]
 have hho:=hostOk_iff.1 (hk1 hkk)
 have hcl:zbK d (elook d p0 l1 guest).1.loc=if (dread d (96+2*(elook d p0 l1 guest).1.loc)).2≠0 then ([],(dread d (96+2*(elook d p0 l1 guest).1.loc)).2) else if (dread d (96+2*(elook d p0 l1 guest).1.loc+1)).2≠0 then ([],(dread d (96+2*(elook d p0 l1 guest).1.loc+1)).2)
   else ((dread d (96+2*(elook d p0 l1 guest).1.loc)).1++(dread d (96+2*(elook d p0 l1 guest).1.loc+1)).1,0):=rfl
 rw [hcl] at hrd
 clear hcl hc0 hc
 revert hkk hho hrd
 generalize (elook d p0 l1 guest).1.loc=k
 intro hkk hcl hho
 have hdo:=h.ok
 have hl1:=zdI (at_:=96+2*k) h.puts
 have hl2:=zdI (at_:=96+2*k+1) h.puts
 obtain ⟨I,hI⟩:∃I:List (List AV)→AHeap×Option (List (List AV)),I=fun xs=>([(4,.var [.d (.str (rdA d k xs.length))]),(2,.var [.d (.int .i64 0)]),(1,.var [.d (.str [])]),(0,(.var [.d (.str d.data),.d (.sl 2 (d.cache.map putD)),.d (.int .i64 d.fuse),.d (.bool d.off),.d (.sl 1 (d.bad.map intD))]))],some []):=⟨_,rfl⟩
 obtain ⟨G,hG⟩:∃G:List (List AV)→Prop,G=fun xs=>rdG d k xs.length:=⟨_,rfl⟩
 obtain ⟨J,hJ⟩:∃J:Code→AHeap→Option (List (List AV))→Prop,J=fun c h g=>c= .ret∧g=some []∧∃t e,cread d l1 guest=([],e)∧h= [(4,.var [.d (.str t)]),(2,.var [.d (.int .i64 e)]),(1,.var [.d (.str [])]),(0,(.var [.d (.str d.data),.d (.sl 2 (d.cache.map putD)),.d (.int .i64 d.fuse),.d (.bool d.off),.d (.sl 1 (d.bad.map intD))]))]:=⟨_,rfl⟩
 refine aw_le ⟨[(3,true,.vp 0 0),(6,true,.vp 1 0),(7,true,.vp 2 0),(10,true,.vp 4 0),(33,true,.fn (.func 205) [] [.dp [.d (.int .i64 k)]])],[(4,.var [.d (.str [])]),(2,.var [.d (.int .i64 0)]),(1,.var [.d (.str [])]),(0,(.var [.d (.str d.data),.d (.sl 2 (d.cache.map putD)),.d (.int .i64 d.fuse),.d (.bool d.off),.d (.sl 1 (d.bad.map intD))]))],some []⟩ le0 ?_
 refine zcu 100 G I J (zmU 100 k (by omega) (by omega)) (by simp only [go_sem,aeq,aeq.aeqF,simprocAttr]) rfl (zat rfl) (by simp [cxOf,cxY]) rfl (by rw [hG];first|trivial|rfl|simp) (by rw [hI];simp only [AS.le,leT,leH,zj,AsgK,AV.le,AV.leL,AObj.le,inH,idsT,idsH,AV.ids,AV.idsL,AV.idsR,AObj.ids,lk,hget,go_sem,aeq,aeq.aeqF,simprocAttr]<;>simp [AV.leL,AV.le]) (by rw [hI];simp only [AS.le,leT,leH,zj,AsgK,AV.le,AV.leL,AObj.le,inH,idsT,idsH,AV.ids,AV.idsL,AV.idsR,AObj.ids,lk,hget,go_sem,aeq,aeq.aeqF,simprocAttr]<;>simp) (by rw [hI]<;>rfl) (by intro x hx;obtain ⟨q,_,rfl⟩:=List.mem_map.1 hx;rfl) (by intro t ht;simp at ht;first|(rcases ht with rfl|rfl<;>simp [cxOf,cxY]<;>done)|(subst ht;simp [cxOf,cxY])) ?_ ?_ ?_
 ·intro xs x hpre hgd l1 r1
  obtain ⟨ys,q,zs,hys,rfl,hzl⟩:=zex hpre
  have hln:xs.length=ys.length:=by rw [hys];simp
  rw [hG] at hgd
  rcases zpr hzl with ⟨rfl,rfl⟩|⟨rfl,rfl⟩
  ·have hx0:xs= []:=by simpa using hys
   subst hx0
   simp only [zaS]
   refine aw_le ⟨[(34,true,.d (.int .i64 (96+2*k))),(3,true,.vp 0 0),(6,true,.vp 1 0),(7,true,.vp 2 0),(10,true,.vp 4 0)],[(4,.var [.d (.str [])]),(2,.var [.d (.int .i64 0)]),(1,.var [.d (.str [])]),(0,(.var [.d (.str d.data),.d (.sl 2 (d.cache.map putD)),.d (.int .i64 d.fuse),.d (.bool d.off),.d (.sl 1 (d.bad.map intD))]))],some []⟩ (by rw [hI];simp only [AS.le,leT,leH,zj,AsgK,AV.le,AV.leL,AObj.le,inH,idsT,idsH,AV.ids,AV.idsL,AV.idsR,AObj.ids,lk,hget,go_sem,aeq,aeq.aeqF,simprocAttr,rdA]) ?_
   (have tk:=za zdP <| za zbe <| za zcB <| za zbq <| zb Tryz.prog);repeat' (first|((first|(refine sa ?_;intro K hK)|refine sb ?_);simp only [go_sem,aeq,aeq.aeqF,simprocAttr,hI,rdA,Tryz.results62])|refine zaD (fun K hK=>?_)|refine sc ?_|refine za5 rfl (fun hc=>?_) (fun hc=>?_)|(refine hK _ ?_;clear hK K)|((first|refine (show AS.le _ _ from ?_)|refine (show leH _ _ from ?_)|refine (show inH _ _ from ?_));simp only [AS.le,leT,leH,zj,AsgK,AV.le,AV.leL,AObj.le,inH,idsT,idsH,AV.ids,AV.idsL,AV.idsR,AObj.ids,lk,hget,go_sem,aeq,aeq.aeqF,simprocAttr,hI,rdA])|refine fun (r2:Rnd _)=>?_|with_reducible refine And.intro ?_ ?_|exact ‹_<+:_› |omega|assumption|clear hK K)
   ·rw [hJ]
    exact ⟨rfl,rfl,_,_,by rw [hcl,if_pos (bneP hc)],rfl⟩
   ·rw [hG]
    exact Classical.byContradiction (bneN hc)
  ·have hx1:xs= [zaS (96+2*k,0)]:=by simpa using hys
   subst hx1
   simp only [zaS]
   refine aw_le ⟨[(34,true,.d (.int .i64 (96+2*k+1))),(3,true,.vp 0 0),(6,true,.vp 1 0),(7,true,.vp 2 0),(10,true,.vp 4 0)],[(4,.var [.d (.str (dread d (96+2*k)).1)]),(2,.var [.d (.int .i64 0)]),(1,.var [.d (.str [])]),(0,(.var [.d (.str d.data),.d (.sl 2 (d.cache.map putD)),.d (.int .i64 d.fuse),.d (.bool d.off),.d (.sl 1 (d.bad.map intD))]))],some []⟩ (by rw [hI];simp only [AS.le,leT,leH,zj,AsgK,AV.le,AV.leL,AObj.le,inH,idsT,idsH,AV.ids,AV.idsL,AV.idsR,AObj.ids,lk,hget,go_sem,aeq,aeq.aeqF,simprocAttr,rdA]) ?_
   have h0:(dread d (96+2*k)).2=0:=hgd
   (have tk:=za zdP <| za zbe <| za zcB <| za zbq <| zb Tryz.prog);repeat' (first|((first|(refine sa ?_;intro K hK)|refine sb ?_);simp only [go_sem,aeq,aeq.aeqF,simprocAttr,hI,rdA,Tryz.results62])|refine zaD (fun K hK=>?_)|refine sc ?_|refine za5 rfl (fun hc=>?_) (fun hc=>?_)|(refine hK _ ?_;clear hK K)|((first|refine (show AS.le _ _ from ?_)|refine (show leH _ _ from ?_)|refine (show inH _ _ from ?_));simp only [AS.le,leT,leH,zj,AsgK,AV.le,AV.leL,AObj.le,inH,idsT,idsH,AV.ids,AV.idsL,AV.idsR,AObj.ids,lk,hget,go_sem,aeq,aeq.aeqF,simprocAttr,hI,rdA])|refine fun (r2:Rnd _)=>?_|with_reducible refine And.intro ?_ ?_|exact ‹_<+:_› |omega|assumption|clear hK K)
   ·rw [hJ]
    exact ⟨rfl,rfl,_,_,by rw [hcl,if_neg (by omega),if_pos (bneP hc)],rfl⟩
   ·rw [hG]
    exact ⟨h0,Classical.byContradiction (bneN hc)⟩
 ·intro hgd
  rw [hG] at hgd
  have hgd:(dread d (96+2*k)).2=0∧(dread d (96+2*k+1)).2=0:=hgd
  rw [hI]
  (have tk:=za zdP <| za zbe <| za zcB <| za zbq <| zb Tryz.prog);repeat' (first|((first|(refine sa ?_;intro K hK)|refine sb ?_);simp only [go_sem,aeq,aeq.aeqF,simprocAttr,sectI,rdA,Tryz.results62])|refine zaD (fun K hK=>?_)|refine sc ?_|refine za5 rfl (fun hc=>?_) (fun hc=>?_)|(refine hK _ ?_;clear hK K)|((first|refine (show AS.le _ _ from ?_)|refine (show leH _ _ from ?_)|refine (show inH _ _ from ?_));simp only [AS.le,leT,leH,zj,AsgK,AV.le,AV.leL,AObj.le,inH,idsT,idsH,AV.ids,AV.idsL,AV.idsR,AObj.ids,lk,hget,go_sem,aeq,aeq.aeqF,simprocAttr,sectI,rdA])|refine fun (r2:Rnd _)=>?_|with_reducible refine And.intro ?_ ?_|exact ‹_<+:_› |omega|assumption|clear hK K)
  rw [hcl,if_neg (by omega),if_neg (by omega)]
 ·rw [hJ]
  rintro c h3 g3 ⟨rfl,rfl,t,e,he,rfl⟩
  refine' walkR fx (za zdP <| za zbe <| za zcB <| za zbq <| zb _)
  rw [he]
@[go_sem] noncomputable def zdv:Ent Tryz.prog 62:= .m3 zq (intT .i64) (intT .i64) zps
open Go Go.Proofs
open Go Go.Proofs
open Go Go.Proofs
@[simp, go_sem] theorem zvG (x:Img) (d:Disk):(wdisk x d).disk=d:=rfl
@[simp, go_sem] theorem zvH (x:Img) (d:Disk):(wdisk x d).geom=x.geom:=rfl
@[simp, go_sem] theorem zvI (x:Img) (d:Disk):(wdisk x d).jour=x.jour:=rfl
@[simp, go_sem] theorem zvJ (x:Img) (d:Disk):(wdisk x d).maps=x.maps:=rfl
@[simp, go_sem] theorem zuo (x:Img) (d:Disk):(wdisk x d).broken=x.broken:=rfl
@[simp, go_sem] theorem zvi (x:Img) (d e:Disk):wdisk (wdisk x d) e=wdisk x e:=rfl
@[simp, go_sem] theorem zvK (x:Img):wdisk x x.disk=x:=rfl
open Go Go.Proofs
open Go Go.Proofs
theorem DiskF.commit {d:Disk} (h:DiskF d) (j:Jour) (p:Plan):DiskF (jcommit d j p).1:=by
 have h1:=h.flush
 have h2:∀l,DiskF (Aw.layL (Aw.dflush d).1 l).1:=fun l=>DiskF.layL l h1
 have h3:∀l,DiskF (Aw.dflush (Aw.layL (Aw.dflush d).1 l).1).1:=fun l=>(h2 l).flush
 have h4:∀l,DiskF (Aw.play (Aw.dflush (Aw.layL (Aw.dflush d).1 l).1).1 p).1:=fun l=>(h3 l).play p
 unfold Aw.jcommit Aw.jtail
 repeat' split
 all_goals first|exact h|exact h1|exact h2 _|exact h3 _|exact h4 _
theorem zmW {d:Disk} {j:Jour} {p:Plan} (h0:0≤j.seq) (h1:j.seq≤4611686018427387904):0≤(jcommit d j p).2.1.seq∧(jcommit d j p).2.1.seq≤4611686018427387904:=by
 unfold jcommit jtail
 repeat' split
 all_goals first|exact ⟨h0,h1⟩|(constructor<;>simp only<;>omega)
theorem ImgF.done {x:Img} (h:ImgF x) (p:Plan):ImgF (cdone x p).1:=by
 have hd:=h.disk.commit x.jour p
 have hs:=zmW (d:=x.disk) (p:=p) h.seq0 h.seq1
 unfold cdone
 split
 ·exact ⟨⟨hd.ok,h.ok.maps,h.ok.names,h.ok.bits⟩,hd,h.guest,h.host,h.seq0,h.seq1,h.maps⟩
 ·exact ⟨⟨hd.ok,h.ok.maps,h.ok.names,h.ok.bits⟩,hd,h.guest,h.host,hs.1,hs.2,h.maps⟩
theorem DiskF.place {d:Disk} (h:DiskF d) (k off:Int) (s:Txt):DiskF (zgO d k off s).1:=by
 have:∀m i d,DiskF d→DiskF (zgq k off s m i d).1:=by
  intro m
  induction m with
  |zero=>intro i d h;exact h
  |succ m ih=>
   intro i d h
   rw [zgq]
   split
   ·exact h.cput1 _ _ _ _
   ·exact ih _ _ (h.cput1 _ _ _ _)
 exact this _ _ _ h
theorem ImgF.write4 {x:Img} (h:ImgF x) (l1 g off:Int) (s:Txt):ImgF (zea x l1 g off s).1:=by
 unfold zea
 repeat' split
 ·exact h
 ·exact h
 ·exact h.wd (DiskF.layL _ h.disk)
 ·exact h.wd (DiskF.layL _ h.disk)
 ·exact (h.wd (DiskF.layL _ h.disk)).done _
theorem ImgF.write {x:Img} (h:ImgF x) (g off:Int) (s:Txt):ImgF (zdM x g off s).1:=by
 have hm:=h.mark g
 unfold zdM
 split
 ·exact h
 split
 ·exact h
 split
 ·exact h
 unfold zgr
 split
 ·exact hm
 split
 ·exact hm
 unfold zhT
 split
 ·split
  ·exact hm
  split
  ·exact hm.wd (hm.disk.place _ _ _)
  ·exact hm.write4 _ _ _ _
 ·exact hm.write4 _ _ _ _
open Go Go.Proofs
open Go Go.Proofs Go.RowKit Go.ChangeShapes Go.WideShapes
structure ImgW (x:Img):Prop where
 ok:ImgOk x
 seq0:0≤x.jour.seq
 seq1:x.jour.seq≤18446744073709551615
 guest0: -9223372036854775808≤x.geom.guest
 guest1:x.geom.guest≤9223372036854775807
 host0: -9223372036854775808≤x.geom.host
 host1:x.geom.host≤9223372036854775807
 pos0: -9223372036854775808≤x.jour.pos
 pos1:x.jour.pos≤9223372036854775807
def imgD (x:Img):List D:= [.str x.disk.data,.sl 2 (x.disk.cache.map putD),.int .i64 x.disk.fuse,.bool x.disk.off,.sl 1 (x.disk.bad.map intD),.int .i64 x.geom.guest,.int .i64 x.geom.host,.int .u64 x.jour.seq,.int .i64 x.jour.pos,.sl 66 (x.maps.map dmapD),.bool x.broken]
theorem zfs {n:Nat} {x:List D} (h:DTy Tryz.prog (n+1) 3 x):∃a:Int,x= [.int .i64 a]∧ -9223372036854775808≤a∧a≤9223372036854775807:=by
 unfold DTy at h
 simp only [ty3] at h
 obtain ⟨a,rfl,h1,h2⟩:=h
 exact ⟨a,rfl,h1,h2⟩
theorem zh7 {n:Nat} {x:List D} (h:DTy Tryz.prog (n+1) 9 x):∃s:Txt,x= [.str s]∧s.length≤9223372036854775807:=by
 unfold DTy at h
 simp only [ty9] at h
 exact h
theorem zg6 {n:Nat} {x:List D} (h:DTy Tryz.prog (n+1) 4 x):∃b:Bool,x= [.bool b]:=by
 unfold DTy at h
 simp only [ty4] at h
 exact h
theorem ztX {n:Nat} {x:List D} (h:DTy Tryz.prog (n+2) 23 x):∃l:List Int,l.length≤9223372036854775807∧x= [.sl 1 (l.map intD)]:=by
 unfold DTy at h
 simp only [ty23] at h
 obtain ⟨rows,rfl,hl,hr⟩:=h
 obtain ⟨l,rfl⟩:=zg1 (e:=intD) (fun r h'=>(zfs (hr r h')).imp fun s h=>h.1)
 exact ⟨l,by simpa using hl,by rw [ty3]⟩
theorem zvv {n:Nat} {x:List D} (h:DTy Tryz.prog (n+2) 198 x):∃q:PutR,x=putD q:=by
 unfold DTy at h
 simp only [ty198,DTy.fields] at h
 obtain ⟨a1,b1,rfl,g1,a2,b2,rfl,g2,rfl⟩:=h
 obtain ⟨a,rfl,_⟩:=zfs g1
 obtain ⟨s,rfl,_⟩:=zh7 g2
 exact ⟨(a,s),rfl⟩
theorem ztY {n:Nat} {x:List D} (h:DTy Tryz.prog (n+3) 22 x):∃l:List PutR,l.length≤9223372036854775807∧x= [.sl 2 (l.map putD)]:=by
 unfold DTy at h
 simp only [ty22] at h
 obtain ⟨rows,rfl,hl,hr⟩:=h
 obtain ⟨l,rfl⟩:=zg1 (e:=putD) (fun r h'=>zvv (hr r h'))
 exact ⟨l,by simpa using hl,by rw [ty198]⟩
theorem ztZ {n:Nat} {x:List D} (h:DTy Tryz.prog (n+4) 25 x):∃d:Disk,DiskOk d∧x= [.str d.data,.sl 2 (d.cache.map putD),.int .i64 d.fuse,.bool d.off,.sl 1 (d.bad.map intD)]:=by
 unfold DTy at h
 simp only [ty25,DTy.fields] at h
 obtain ⟨a1,b1,rfl,g1,a2,b2,rfl,g2,a3,b3,rfl,g3,a4,b4,rfl,g4,a5,b5,rfl,g5,rfl⟩:=h
 obtain ⟨s,rfl,q1⟩:=zh7 g1
 obtain ⟨l,q2,rfl⟩:=ztY g2
 obtain ⟨f,rfl,q3,q4⟩:=zfs g3
 obtain ⟨o,rfl⟩:=zg6 g4
 obtain ⟨m,q5,rfl⟩:=ztX g5
 exact ⟨⟨s,l,f,o,m⟩,⟨q1,q2,q5,q3,q4⟩,rfl⟩
theorem zi6:∀ {parts:List (List D)},(∀p∈parts,∃b:Bool,p= [.bool b])→∃l:List Bool,parts.flatten=l.map D.bool∧l.length=parts.length
 | [],_=>⟨[],rfl,rfl⟩
 |p::r,h=>by
  obtain ⟨b,rfl⟩:=h p (by simp)
  obtain ⟨l,h1,h2⟩:=zi6 (parts:=r) (fun q hq=>h q (by simp [hq]))
  exact ⟨b::l,by simp [h1],by simp [h2]⟩
theorem zok {n:Nat} {x:List D} (h:DTy Tryz.prog (n+3) 150 x):∃m:Dmap,(m.name.length≤9223372036854775807∧m.bits.length=64)∧x=dmapD m:=by
 unfold DTy at h
 simp only [ty150,DTy.fields] at h
 obtain ⟨a1,b1,rfl,g1,a2,b2,rfl,g2,a3,b3,rfl,g3,rfl⟩:=h
 obtain ⟨s,rfl,q1⟩:=zh7 g1
 obtain ⟨u,rfl⟩:=zg6 g2
 unfold DTy at g3
 simp only [ty148] at g3
 obtain ⟨parts,rfl,hl,hp⟩:=g3
 obtain ⟨l,h1,h2⟩:=zi6 (fun p h'=>zg6 (hp p h'))
 exact ⟨⟨s,u,l⟩,⟨q1,by rw [h2,hl]⟩,by simp [dmapD,h1]⟩
theorem zsa {n:Nat} {x:List D} (h:DTy Tryz.prog (n+4) 31 x):∃l:List Dmap,l.length≤9223372036854775807∧(∀m∈l,m.name.length≤9223372036854775807∧m.bits.length=64)∧x= [.sl 66 (l.map dmapD)]:=by
 unfold DTy at h
 simp only [ty31] at h
 obtain ⟨rows,rfl,hl,hr⟩:=h
 obtain ⟨l,rfl⟩:=zg1 (e:=dmapD) (fun r h'=>(zok (hr r h')).imp fun s h=>h.2)
 refine ⟨l,by simpa using hl,fun m hm=>?_,by rw [ty150]⟩
 obtain ⟨m',h1,h2⟩:=zok (hr (dmapD m) (List.mem_map_of_mem hm))
 rw [zfP _ _ h2]
 exact h1
theorem zsb {n:Nat} {x:List D} (h:DTy Tryz.prog (n+5) 33 x):∃X:Img,ImgW X∧x=imgD X:=by
 unfold DTy at h
 simp only [ty33,DTy.fields] at h
 obtain ⟨a1,b1,rfl,g1,a2,b2,rfl,g2,a3,b3,rfl,g3,a4,b4,rfl,g4,a5,b5,rfl,g5,rfl⟩:=h
 obtain ⟨d,q1,rfl⟩:=ztZ g1
 unfold DTy at g2 g3
 simp only [ty27,DTy.fields] at g2
 simp only [ty30,DTy.fields] at g3
 obtain ⟨c1,e1,rfl,k1,c2,e2,rfl,k2,rfl⟩:=g2
 obtain ⟨c3,e3,rfl,k3,c4,e4,rfl,k4,rfl⟩:=g3
 obtain ⟨gu,rfl,r1,r2⟩:=zfs k1
 obtain ⟨ho,rfl,r3,r4⟩:=zfs k2
 unfold DTy at k3
 simp only [ty28] at k3
 obtain ⟨sq,rfl,r5,r6⟩:=k3
 obtain ⟨po,rfl,r7,r8⟩:=zfs k4
 obtain ⟨l,q2,q3,rfl⟩:=zsa g4
 obtain ⟨br,rfl⟩:=zg6 g5
 exact ⟨⟨d,⟨gu,ho⟩,⟨sq,po⟩,l,br⟩,⟨⟨q1,q2,fun m hm=>(q3 m hm).1,fun m hm=>(q3 m hm).2⟩,r5,r6,r1,r2,r3,r4,r7,r8⟩,rfl⟩
theorem zsc (X:Img):argAV Tryz.prog 33 (imgD X)=imgA X:=by simp only [argAV,ty33];rfl
theorem zvw (n:Int):argAV Tryz.prog 3 [.int .i64 n]= .d (.int .i64 n):=by simp only [argAV,ty3]
theorem zsd (s:Txt):argAV Tryz.prog 9 [.str s]= .d (.str s):=by simp only [argAV,ty9]
open Go Go.Proofs
theorem ziY {d d':Disk} (h:d'.data.length=d.data.length) (a:Int):there d' a=there d a:=by unfold there dsize;rw [h]
theorem zld (d:Disk):(burnt d).off=d.off:=by unfold burnt;split<;>rfl
theorem zle (d:Disk):(burnt d).bad=d.bad:=by unfold burnt;split<;>rfl
theorem ziZ (d:Disk) (a:Int):sees (burnt d) a=sees d a:=by unfold sees;rw [zfl,zcW]
theorem zmX {d:Disk} {a:Int} {s:Txt} (h:(zT d a s).2=0):
  d.off=false∧there d a=true∧d.bad.contains a=false∧s.length=64∧(zT d a s).1=burnt { d with cache:=d.cache++ [(a,s)] } :=by
 unfold zT at h ⊢
 split at h
 ·exact absurd h (by simp)
 split at h
 ·exact absurd h (by simp)
 split at h
 ·exact absurd h (by simp)
 split at h
 ·exact absurd h (by simp)
 split at h
 ·exact absurd h (by simp)
 split at h
 ·exact absurd h (by simp)
 rename_i h1 h2 h3 h4 h5 h6
 refine ⟨by simpa using h1,by simpa using h2,by simpa using h5,by omega,?_⟩
 rw [if_neg h1,if_neg h2,if_neg h3,if_neg h4,if_neg h5,if_neg h6]
theorem zmY {d:Disk} {a:Int} {s:Txt} (h:(zT d a s).2=0) (b:Int):
  dread (zT d a s).1 b=if b=a then (s,0) else dread d b:=by
 obtain ⟨h1,h2,h3,h4,h5⟩:=zmX h
 rw [h5]
 unfold dread
 rw [zld,zle,ziZ,ziY (d:=d) (by rw [zcW])]
 simp only [h1,Bool.false_eq_true,if_false]
 have hs:sees { d with cache:=d.cache++ [(a,s)] } b=if b=a then s else sees d b:=by
  unfold sees
  simp only [List.reverse_append,List.reverse_singleton,List.singleton_append,List.find?_cons,isPut]
  by_cases e:b=a
  ·subst e;simp
  ·have:(a==b)=false:=by simpa using fun h=>e h.symm
   simp only [this,if_neg e]
 have hs2:sees { data:=d.data,cache:=d.cache++ [(a,s)],fuse:=d.fuse,off:=false,bad:=d.bad } b=if b=a then s else sees d b:=by rw [← hs,← h1]
 rw [hs2]
 by_cases e:b=a
 ·subst e
  simp only [h2,h3,Bool.not_true,Bool.false_eq_true,if_false,if_true]
 ·simp only [if_neg e]
theorem zmZ {d:Disk} (h:(dflush d).2=0):d.off=false∧(dflush d).1=burnt { d with data:=zb1 d.data d.cache,cache:= [] } :=by
 unfold dflush at h ⊢
 split at h
 ·exact absurd h (by simp)
 split at h
 ·exact absurd h (by simp)
 rename_i h1 h2
 rw [if_neg h1,if_neg h2]
 exact ⟨by simpa using h1,rfl⟩
theorem zvj {b:Txt} {k:Nat} {s:Txt} (hs:s.length=64) (hk:k*64+64≤b.length) (i:Nat):
  ((lay b (k*64) s).drop (i*64)).take 64=if i=k then s else (b.drop (i*64)).take 64:=by
 unfold lay
 split
 ·rename_i e
  subst e
  have hl:(b.take (i*64)).length=i*64:=by rw [List.length_take];omega
  rw [List.append_assoc,List.drop_append_of_le_length (by omega),List.drop_of_length_le (by omega),List.nil_append,List.take_append_of_le_length (by omega),List.take_of_length_le (by omega)]
 ·rename_i e
  rcases Nat.lt_or_ge i k with hlt|hge
  ·have hl:(b.take (k*64)).length=k*64:=by rw [List.length_take];omega
   have hm:i*64+64≤k*64:=by omega
   rw [List.append_assoc,List.drop_append_of_le_length (by omega),List.take_append_of_le_length (by rw [List.length_drop];omega),List.drop_take,List.take_take,Nat.min_eq_left (by omega)]
  ·have hm:k*64+64≤i*64:=by omega
   have hl:(b.take (k*64)++s).length=k*64+64:=by rw [List.length_append,List.length_take];omega
   rw [List.drop_append,List.drop_of_length_le (by omega),List.nil_append,hl,List.drop_drop,hs]
   congr 2
   omega
theorem zi0 {d:Disk} :∀ (l:List PutR) (b:Txt),b.length=d.data.length→l.all (putOk d)=true→∀ (a:Int),0≤a→
  ((zb1 b l).drop (a*64).toNat).take 64=match l.reverse.find? (isPut a) with|some q=>q.2|none=>(b.drop (a*64).toNat).take 64
 | [],b,hb,hl,a,ha=>rfl
 | q::l,b,hb,hl,a,ha=>by
  simp only [List.all_cons,Bool.and_eq_true] at hl
  obtain ⟨h1,h2⟩:=hl
  unfold putOk at h1
  rw [Bool.and_eq_true,there_iff,beq_iff_eq] at h1
  obtain ⟨⟨h3,h4⟩,h5⟩:=h1
  obtain ⟨m,hm⟩:∃m:Nat,q.1=m:=⟨q.1.toNat,by omega⟩
  obtain ⟨i,rfl⟩:∃i:Nat,a=i:=⟨a.toNat,by omega⟩
  have hq:(q.1*64).toNat=m*64:=by omega
  have hk:m*64+64≤b.length:=by omega
  have hlen:(lay b (m*64) q.2).length=b.length:=zjz (by omega)
  have ih:=zi0 l (lay b (m*64) q.2) (by omega) h2 i (by omega)
  show (List.drop _ (zb1 (lay b (q.1*64).toNat q.2) l)).take 64=_
  rw [hq,ih,List.reverse_cons,List.find?_append]
  cases hf:l.reverse.find? (isPut (i:Int)) with
  |some x=>simp
  | none=>
   simp only [Option.none_or,List.find?_singleton,isPut]
   have hs:=zvj (b:=b) (k:=m) (s:=q.2) (by omega) hk i
   have hi:((i:Int)*64).toNat=i*64:=by omega
   rw [hi,hs]
   by_cases e:i=m
   ·subst e
    simp [hm]
   ·have:(q.1==(i:Int))=false:=by rw [hm];simp;omega
    simp [this,e]
theorem zh1 {d:Disk} (hd:DiskF d) (h:(dflush d).2=0) (b:Int):dread (dflush d).1 b=dread d b:=by
 obtain ⟨h1,h2⟩:=zmZ h
 have hl:(zb1 d.data d.cache).length=d.data.length:=zgg hd.puts
 rw [h2]
 unfold dread
 rw [zld,zle,ziZ,ziY (d:=d) (by rw [zcW];exact hl)]
 by_cases ht:there d b=true
 ·have hs:sees { d with data:=zb1 d.data d.cache,cache:= [] } b=sees d b:=by
   unfold sees
   simp only [List.reverse_nil,List.find?_nil]
   rw [there_iff] at ht
   exact zi0 (d:=d) d.cache d.data rfl hd.puts b ht.1
  rw [hs]
 ·have ht:(!there d b)=true:=by simpa using ht
  simp only [ht,if_true]
def zfS (l:List (Int×Txt)) (b:Int):Option Txt:=(l.reverse.find? (fun q=>q.1==b)).map (·.2)
theorem zh2 (q:Int×Txt) (l:List (Int×Txt)) (b:Int):zfS (q::l) b=(zfS l b).or (if q.1=b then some q.2 else none):=by
 unfold zfS
 rw [List.reverse_cons,List.find?_append]
 cases hf:l.reverse.find? (fun q=>q.1==b) with
 |some x=>simp
 | none=>
  by_cases e:q.1=b
  ·simp [e]
  ·have:(q.1==b)=false:=by simpa using e
   simp [this,e]
theorem zgt:∀ (l:List (Int×Txt)) {d:Disk},(layL d l).2=0→∀b,dread (layL d l).1 b=match zfS l b with|some s=>(s,0)|none=>dread d b
 | [],d,h,b=>rfl
 | q::l,d,h,b=>by
  rw [layL] at h ⊢
  by_cases hw:(zT d q.1 q.2).2=0
  ·rw [if_neg (by omega)] at h ⊢
   rw [zgt l h b,zh2]
   cases zfS l b with
   |some x=>rfl
   |none=>
    simp only [Option.none_or]
    rw [zmY hw]
    by_cases e:q.1=b
    ·rw [if_pos e.symm,if_pos e]
    ·rw [if_neg (fun h=>e h.symm),if_neg e]
  ·rw [if_pos hw] at h
   exact absurd h hw
theorem zoc:∀ (l:List Txt) (a:Int) (q:Int×Txt),q∈numF a l→a≤q.1∧q.1<a+l.length
 | [],a,q,h=>by cases h
 | s::l,a,q,h=>by
  rw [numF,List.mem_cons] at h
  rcases h with rfl|h
  ·simp only [List.length_cons];omega
  ·have:=zoc l (a+1) q h
   simp only [List.length_cons];omega
theorem zm0 {l:List (Int×Txt)} {b:Int} (h:∀q∈l,q.1≠b):zfS l b=none:=by
 unfold zfS
 rw [List.find?_eq_none.2]
 ·rfl
 ·intro q hq
  have:=h q (List.mem_reverse.1 hq)
  simpa using this
theorem zlf:∀ (t:List Int) (s:List Txt) (seen:List Int),pfitL seen t s=true→t.length=s.length→∀x∈t,x ∉ seen
 | [],_,_,_,_,x,h=>by cases h
 |a::r,[],_,_,hl,x,h=>by simp at hl
 |a::r,s::q,seen,hp,hl,x,h=>by
  simp only [pfitL,Bool.and_eq_true,Bool.not_eq_true'] at hp
  obtain ⟨⟨⟨_,h2⟩,_⟩,h4⟩:=hp
  rcases List.mem_cons.1 h with rfl|h
  ·simpa using h2
  ·exact fun hx=>zlf r q (seen++ [a]) h4 (by simpa using hl) x h (by simp [hx])
theorem zi1:∀ (t:List Int) (s:List Txt) (seen:List Int),pfitL seen t s=true→t.length=s.length→∀b,zfS (t.zip s) b=if 0≤pfind t b then some (s.getD (pfind t b).toNat []) else none
 | [],s,seen,hp,hl,b=>by simp [zfS,pfind,idxP]
 |a::r,[],seen,hp,hl,b=>by simp at hl
 | a :: r,x::q,seen,hp,hl,b=>by
  have hp0:=hp
  simp only [pfitL,Bool.and_eq_true,Bool.not_eq_true'] at hp
  obtain ⟨⟨⟨_,h2⟩,_⟩,h4⟩:=hp
  have hl':r.length=q.length:=by simpa using hl
  have ih:=zi1 r q (seen++ [a]) h4 hl' b
  have hn:=zlf r q (seen++ [a]) h4 hl'
  rw [List.zip_cons_cons,zh2,ih]
  have hidx:∀ (l:List Int) (k:Nat),idxP (fun y=>y==b) l k=if 0≤pfind l b then pfind l b+k else -1:=by
   intro l
   unfold pfind
   have hg:∀ (l:List Int) (k:Nat),idxP (fun y=>y==b) l k=if 0≤idxP (fun y=>y==b) l 0 then idxP (fun y=>y==b) l 0+k else -1:=by
    intro l
    induction l with
    |nil=>intro k;simp [idxP]
    | cons y l ih=>
     intro k
     simp only [idxP]
     by_cases e:(y==b)=true
     ·simp [e]
     ·simp only [e]
      have h1:=ih (k+1)
      have h2:=ih (0+1)
      by_cases h0:0≤idxP (fun y=>y==b) l 0
      ·rw [if_pos h0] at h1 h2
       rw [h1,h2]
       simp only [Bool.false_eq_true,if_false]
       rw [if_pos (by omega)]
       omega
      ·rw [if_neg h0] at h1 h2
       rw [h1,h2]
       simp
   exact hg l
  by_cases e:a=b
  ·subst e
   have hna:¬0≤pfind r a:=by
    intro hge
    rcases za1 r a with hc|⟨k,hk,hkl⟩
    ·omega
    ·have:a∈r:=by
      unfold pfind at hge
      have hex:∀ (l:List Int) (k:Nat),0≤idxP (fun y=>y==a) l k→a∈l:=by
       intro l
       induction l with
       |nil=>intro k h;simp [idxP] at h
       | cons y l ih=>
        intro k h
        simp only [idxP] at h
        by_cases e:(y==a)=true
        ·have:y=a:=by simpa using e
         simp [this]
        ·simp only [e,if_false] at h
         exact List.mem_cons_of_mem _ (ih _ h)
      exact hex r 0 hge
     exact hn a this (by simp)
   rw [if_neg hna]
   have:pfind (a::r) a=0:=by simp [pfind,idxP]
   rw [this]
   simp
  ·have hne:(a==b)=false:=by simpa using e
   have:pfind (a::r) b=if 0≤pfind r b then pfind r b+1 else -1:=by
    show idxP _ _ _=_
    simp only [idxP,hne]
    have:=hidx r (0+1)
    simpa using this
   rw [this]
   by_cases h0:0≤pfind r b
   ·have h2:(pfind r b+1).toNat=(pfind r b).toNat+1:=by omega
    have h3:0≤pfind r b+1:=by omega
    rw [if_pos h0,if_pos h0,if_pos h3,h2]
    simp
   ·rw [if_neg h0,if_neg h0,if_neg e,if_neg (by decide)]
    rfl
theorem zpu {d:Disk} {p:Plan} (hp:pfit p=true) (h:(play d p).2=0) (b:Int):dread (play d p).1 b=plook d p b:=by
 unfold play at h ⊢
 have hp0:=hp
 simp only [pfit,Bool.and_eq_true,decide_eq_true_eq] at hp
 rw [zgt _ h,zi1 _ _ [] hp.2 hp.1.1]
 unfold plook
 split
 ·rename_i s hs
  split at hs
  ·rename_i hge
   rw [if_pos hge]
   simp only [Option.some.injEq] at hs
   rw [hs]
  ·cases hs
 ·rename_i hs
  split at hs
  ·cases hs
  ·rename_i hge
   rw [if_neg hge]
theorem zlg {d:Disk} {j:Jour} {p:Plan} (hd:DiskF d) (hp:pfit p=true) (h:(jcommit d j p).2.2=0) {b:Int} (hb:b<6∨87≤b):dread (jcommit d j p).1 b=plook d p b:=by
 have hlen:=zay hp
 unfold jcommit at h ⊢
 split at h
 ·rename_i h0
  rw [if_pos h0]
  have:p.targets= []:=List.eq_nil_of_length_eq_zero h0
  unfold plook pfind
  rw [this]
  rfl
 rename_i h0
 rw [if_neg h0]
 split at h
 ·exact absurd h (by simp)
 rename_i h1
 rw [if_neg h1]
 split at h
 ·rename_i h2;exact absurd h h2
 rename_i h2
 have h2:(dflush d).2=0:=by simpa using h2
 rw [if_neg (by omega)]
 obtain ⟨L,hL⟩:∃L,L=zb9 j.seq p:=⟨_,rfl⟩
 have hLl:=(zgl j.seq hp).1
 rw [← hL] at h hLl ⊢
 have hA:=zgk j.pos L.length
 obtain ⟨A,hAe⟩:∃A,A=zcL j.pos L.length:=⟨_,rfl⟩
 have hAL:A+L.length≤81:=by
  rw [hAe];unfold zcL;split<;>omega
 rw [← hAe] at h hA ⊢
 unfold jtail at h ⊢
 split at h
 ·rename_i h3;exact absurd h h3
 rename_i h3
 have h3:(layL (dflush d).1 (numF (6+A) L)).2=0:=by simpa using h3
 rw [if_neg (by omega)]
 split at h
 ·rename_i h4;exact absurd h h4
 rename_i h4
 have h4:(dflush (layL (dflush d).1 (numF (6+A) L)).1).2=0:=by simpa using h4
 rw [if_neg (by omega)]
 split at h
 ·rename_i h5;exact absurd h h5
 rename_i h5
 have h5:(play (dflush (layL (dflush d).1 (numF (6+A) L)).1).1 p).2=0:=by simpa using h5
 rw [if_neg (by omega)]
 simp only
 rw [zpu hp h5]
 have hf1:=hd.flush
 have hf2:DiskF (layL (dflush d).1 (numF (6+A) L)).1:=DiskF.layL _ hf1
 have hv:dread (dflush (layL (dflush d).1 (numF (6+A) L)).1).1 b=dread d b:=by
  rw [zh1 hf2 h4,zgt _ h3,zm0]
  ·exact zh1 hd h2 b
  ·intro q hq
   have:=zoc L (6+A) q hq
   omega
 unfold plook
 rw [hv]
end Go.Aw
