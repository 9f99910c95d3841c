/-
  Parts of the proof: RefcB, RootA, RootB, TabA, TabB, TabC, TabD, PointA, PointB, PointC, RootC, RootD, PointD, PointE, PointF, PointG, CowA, CowB, CowC (short names; the readable texts lie in the repo, under wip).
-/
import Derived.Test.YtglmbboafmmnpaaGreatDoorPart6
import Derived.Test.YtglmbboafmmnpaaGreatDoorPart4
import Derived.Test.YtglmbboafmmnpaaGreatDoorPart5
set_option maxRecDepth 100000
set_option maxHeartbeats 2000000
set_option linter.unusedSimpArgs false
set_option linter.unusedVariables false
namespace Go.Aw
open Go Go.Proofs
theorem zqJ (d:Disk) (p:Plan) (k:Int) (h:DP d p):AC 130 [diskA d,planA p,.d (.int .i64 k)] (.tup [.d (.int .i64 (rget d p k).1),.d (.int .i64 (rget d p k).2)]):=by
 refine bod Tryz.func130 Tryz.ntmps130 (fun base=>?_)
 have h1:=h.dok
 have h2:=h.pok
 have h3:=h.plen
 by_cases hk:zM k=true
 ·have hdec:(!zM k)=false:=by rw [hk];rfl
  obtain ⟨hk0,hk1⟩:=hostOk_iff.1 hk
  by_cases he:(plook d p (87+k / 32)).2=0
  ·have hb:((plook d p (87+k / 32)).2 !=0)=false:=by simpa using he
   have h64:=zcA h he
   have hts:=zcs (s:=((plook d p (87+k / 32)).1.drop (2*(k % 32)).toNat)) (z:=2) 2 rfl (by omega) (by omega) (by rw [List.length_drop];omega)
   have hr:=zeC d p k
   have hrg:rget d p k=(((takeN (((plook d p (87+k / 32)).1.drop (2*(k % 32)).toNat).take 2):Nat):Int),0):=by
    rw [rget,if_neg (by rw [hdec];exact Bool.false_ne_true),if_neg (by simpa using he)]
   have hwr:IntKind.i64.wrap (rget d p k).1=(rget d p k).1:=zg (by omega) (by omega)
   rw [hrg] at hwr
   simp only at hwr
   have hld:((plook d p (87+k / 32)).1.drop (2*(k % 32)).toNat).length≤64:=by rw [List.length_drop];omega
   have htk:List.take (plook d p (87+k / 32)).1.length (plook d p (87+k / 32)).1=(plook d p (87+k / 32)).1:=List.take_length
   (have tk:=za zey <| za zW <| za zbt <| zb Tryz.prog;have fx:=(⟨@zbJ,hdec,hb,hts,hwr,htk⟩:_∧_∧_∧_∧_∧_);repeat' (first|(refine hK _ ?_;clear hK K)|refine wa fun K hK=>?_|refine wb ?_|refine wc ?_ ?_|exact we|refine fun (hc:_=(_:Bool))=>?_|clear hK K))
   rw [hrg]
  ·have hb:((plook d p (87+k / 32)).2 !=0)=true:=by simpa using he
   (have tk:=za zey <| za zW <| za zbt <| zb Tryz.prog;have fx:=(⟨@zbJ,hdec,hb⟩:_∧_∧_);repeat' (first|(refine hK _ ?_;clear hK K)|refine wa fun K hK=>?_|refine wb ?_|refine wc ?_ ?_|exact we|refine fun (hc:_=(_:Bool))=>?_|clear hK K))
   rw [rget,if_neg (by rw [hdec];exact Bool.false_ne_true),if_pos he]
 ·have hdec:(!zM k)=true:=by simpa using hk
  (have tk:=za zey <| za zW <| za zbt <| zb Tryz.prog;have fx:=(⟨@zbJ,hdec⟩:_∧_);repeat' (first|(refine hK _ ?_;clear hK K)|refine wa fun K hK=>?_|refine wb ?_|refine wc ?_ ?_|exact we|refine fun (hc:_=(_:Bool))=>?_|clear hK K))
  rw [rget,if_pos hdec]
@[go_sem] noncomputable def zas:Ent Tryz.prog 130:= .m3 zq zw (intT .i64) zqJ
theorem zqK (d:Disk) (p:Plan) (k by_:Int) (h:DP d p):AC 53 [diskA d,planA p,.d (.int .i64 k),.d (.int .i64 by_)] (.tup [planA (radd d p k by_).1,.d (.int .i64 (radd d p k by_).2)]):=by
 refine fbod Tryz.func53 Tryz.ntmps53 (fun base=>?_)
 have h1:=h.dok
 have h2:=h.puts
 have h3:=h.p
 have hr:=zeC d p k
 by_cases he:(rget d p k).2=0
 ·have hb:((rget d p k).2 !=0)=false:=by simpa using he
  obtain ⟨hk0,hk1⟩:=zlV he
  have hw1:IntKind.i64.wrap (0 - (rget d p k).1)= -(rget d p k).1:=by rw [zg (by omega) (by omega)];omega
  have hw2:IntKind.i64.wrap (65535 - (rget d p k).1)=65535 - (rget d p k).1:=zg (by omega) (by omega)
  by_cases hc:by_< -(rget d p k).1∨65535 - (rget d p k).1<by_
  ·have hdec:(decide (by_< -(rget d p k).1)||decide (65535 - (rget d p k).1<by_))=true:=by simpa using hc
   (have tk:=za zas <| za zey <| za zce <| za zaC <| zb Tryz.prog;have fx:=(⟨hb,hw1,hw2,hdec⟩:_∧_∧_∧_);repeat' (first|(refine hK _ ?_;clear hK K)|refine wa fun K hK=>?_|refine wb ?_|refine wc ?_ ?_|exact we|refine fun (hc:_=(_:Bool))=>?_|clear hK K))
   rw [radd,if_neg (by simpa using he),if_pos hc]
  ·have hdec:(decide (by_< -(rget d p k).1)||decide (65535 - (rget d p k).1<by_))=false:=by simpa using hc
   have hw3:IntKind.i64.wrap ((rget d p k).1+by_)=(rget d p k).1+by_:=zg (by omega) (by omega)
   have hw4:IntKind.u64.wrap ((rget d p k).1+by_)=(rget d p k).1+by_:=zad (by omega) (by omega)
   have hpl:=zP ((rget d p k).1+by_).toNat 2
   (have tk:=za zas <| za zey <| za zce <| za zaC <| zb Tryz.prog;have fx:=(⟨hb,hw1,hw2,hw3,hw4,hdec,@zhv⟩:_∧_∧_∧_∧_∧_∧_);repeat' (first|(refine hK _ ?_;clear hK K)|refine wa fun K hK=>?_|refine wb ?_|refine wc ?_ ?_|exact we|refine fun (hc:_=(_:Bool))=>?_|clear hK K))
   all_goals first|(rw [hpl];decide)|skip
   rw [radd,if_neg (by simpa using he),if_neg hc]
 ·have hb:((rget d p k).2 !=0)=true:=by simpa using he
  (have tk:=za zas <| za zey <| za zce <| za zaC <| zb Tryz.prog;have fx:=hb;repeat' (first|(refine hK _ ?_;clear hK K)|refine wa fun K hK=>?_|refine wb ?_|refine wc ?_ ?_|exact we|refine fun (hc:_=(_:Bool))=>?_|clear hK K))
  rw [radd,if_pos he]
@[go_sem] noncomputable def zbg:Ent Tryz.prog 53:= .m4 zq zw (intT .i64) (intT .i64) zqK
def freeL (d:Disk) (p:Plan):Nat→Int→List (Int×Int)
 |0,_=> []
 |m+1,k=>if (rget d p k).2≠0 then [(0,(rget d p k).2)] else if (rget d p0 k).2≠0 then [(0,(rget d p0 k).2)]
  else if (rget d p k).1=0∧(rget d p0 k).1=0 then (k,0)::freeL d p m (k+1) else freeL d p m (k+1)
theorem zhJ (d:Disk) (p:Plan):∀ (m:Nat) (k:Int),zej d p m k=(freeL d p m k).headD (0,17)
 |0,k=>rfl
 |m+1,k=>by
  rw [zej,freeL]
  repeat' split
  all_goals first|rfl|exact zhJ d p m (k+1)
def freeI (q:Int×Int):List AV:= [.d (.int .i64 q.1),.d (.int .i64 q.2)]
def geomC (g:Geom):List AV:= [.d (.int .i64 g.guest),.d (.int .i64 g.host)]
attribute [go_sem] geomC
theorem zsz (d:Disk) (p:Plan) (g:Geom) (_:True):AC 217 [diskA d,planA p,geomA g] (.fn (.func 268) [] [.dp (geomC g),.dp (planC p),.dp (diskC d)]):=by
 refine fbod Tryz.func217 Tryz.ntmps217 (fun base=>?_)
 (repeat' (first|(refine hK _ ?_;clear hK K)|refine wa fun K hK=>?_|refine wb ?_|refine wc ?_ ?_|refine fun (nb:Bool) (hnb:nb=true→_)=>?_|exact we|clear hK K))
@[go_sem] noncomputable def zeF:Ent Tryz.prog 217:= .m3 zq zw zdT zsz
abbrev Fst (d:Disk) (p:Plan) (g:Geom):= { q:Nat×List (List AV) // (q.1:Int)≤max g.host 0∧q.2++(freeL d p (g.host.toNat - q.1) q.1).map freeI=(freeL d p g.host.toNat 0).map freeI }
theorem zmo (d:Disk) (p:Plan) (g:Geom) (h:DP d p) (hg:g.host≤1000000):AIter Tryz.prog 268 100 [] [.dp [.d (.int .i64 g.guest),.d (.int .i64 g.host)],.dp [.d (.sl 1 (p.targets.map intD)),.d (.sl 1 (p.texts.map strD))],.dp [.d (.str d.data),.d (.sl 2 (d.cache.map putD)),.d (.int .i64 d.fuse),.d (.bool d.off),.d (.sl 1 (d.bad.map intD))]] [] ((freeL d p g.host.toNat 0).map freeI) (fun gg h'=>(∀xs,gg=some xs→xs=(freeL d p g.host.toNat 0).map freeI)∧h'= []):=by
 refine itr Tryz.func268 Tryz.ntmps268 (fun base y=>?_)
 refine zhi ?_
 (have tk:=zb Tryz.prog);repeat' (first|(refine zy (fun i=>decide (i<100)) (by simp only [inH,idsH,hsel,AV.ids,AV.idsL,AV.idsR,AObj.ids,hget,go_sem,aeq,aeq.aeqF,simprocAttr]) ?_;simp only [go_sem,aeq,aeq.aeqF,simprocAttr,hsel,keepT];refine zH ?_;simp only [go_sem,aeq,aeq.aeqF,simprocAttr])|((first|(refine ya ?_;intro K hK)|refine yb ?_);simp only [go_sem,aeq,aeq.aeqF,simprocAttr])|refine zj (fun K hK=>?_)|refine sc ?_|refine zi rfl (fun hc=>?_) (fun hc=>?_)|(refine hK _ ?_;clear hK K)|((first|refine (show AS.le _ _ from ?_)|refine (show leH _ _ from ?_)|refine (show inH _ _ from ?_));simp only [AS.le,leT,leH,zc,AsgK,AV.le,AV.leL,AObj.le,inH,idsT,idsH,AV.ids,AV.idsL,AV.idsR,AObj.ids,lk,hget,go_sem,aeq,aeq.aeqF,simprocAttr])|refine fun (r2:Rnd _)=>?_|with_reducible refine And.intro ?_ ?_|exact ‹_<+:_› |omega|assumption|refine fun (hg:(_:Bool)=(_:Bool))=>?_|clear hK K)
 have hz:=h.zero
 have hz0:p0=Plan.mk [] []:=rfl
 rw [hz0] at hz
 refine zo (fun q:Fst d p g=>⟨[(0,true,.fn (.yield y.yl) [] []),(1,true,.dp [.d (.int .i64 g.guest),.d (.int .i64 g.host)]),(2,true,.dp [.d (.sl 1 (p.targets.map intD)),.d (.sl 1 (p.texts.map strD))]),(3,true,.dp [.d (.str d.data),.d (.sl 2 (d.cache.map putD)),.d (.int .i64 d.fuse),.d (.bool d.off),.d (.sl 1 (d.bad.map intD))]),(12,true,.d (.int .i64 g.host)),(13,true,.d (.int .i64 q.1.1))],[],some q.1.2⟩) (fun q=>g.host.toNat - q.1.1) ⟨(0,[]),by show (_:Int)≤_;omega,rfl⟩ le1 (fun q=>?_)
 obtain ⟨⟨i,xs⟩,hi,hf⟩:=q
 simp only at hi hf ⊢
 by_cases hlt:(i:Int)<g.host
 ·have hcmp:decide ((i:Int)<g.host)=true:=decide_eq_true hlt
  have hwi:=zp (i:=i) (by omega)
  rw [show g.host.toNat - i=(g.host.toNat - (i+1))+1 by omega,freeL,hz0] at hf
  have hr1:=zeC d p i
  have hr2:=zeC d ⟨[],[]⟩ i
  (have tk:=za zas <| zb Tryz.prog);repeat' (first|(refine zy (fun i=>decide (i<100)) (by simp only [inH,idsH,hsel,AV.ids,AV.idsL,AV.idsR,AObj.ids,hget,go_sem,aeq,aeq.aeqF,simprocAttr]) ?_;simp only [go_sem,aeq,aeq.aeqF,simprocAttr,hcmp,hsel,keepT];refine zH ?_;simp only [go_sem,aeq,aeq.aeqF,simprocAttr,hcmp])|((first|(refine ya ?_;intro K hK)|refine yb ?_);simp only [go_sem,aeq,aeq.aeqF,simprocAttr,hcmp])|refine zj (fun K hK=>?_)|refine sc ?_|refine zi rfl (fun hc=>?_) (fun hc=>?_)|(refine hK _ ?_;clear hK K)|((first|refine (show AS.le _ _ from ?_)|refine (show leH _ _ from ?_)|refine (show inH _ _ from ?_));simp only [AS.le,leT,leH,zc,AsgK,AV.le,AV.leL,AObj.le,inH,idsT,idsH,AV.ids,AV.idsL,AV.idsR,AObj.ids,lk,hget,go_sem,aeq,aeq.aeqF,simprocAttr,hcmp])|refine fun (r2:Rnd _)=>?_|with_reducible refine And.intro ?_ ?_|exact ‹_<+:_› |omega|assumption|refine fun (hg:(_:Bool)=(_:Bool))=>?_|clear hK K)
  refine zo (fun r: { r:Nat×Int // (r.1=0∧r.2=0)∨(r.1=1∧(rget d p i).2=0∧r.2=(rget d p i).1)∨(r.1=2∧(rget d p i).2=0∧(rget d ⟨[],[]⟩ i).2=0∧r.2=(rget d p i).1+(rget d ⟨[],[]⟩ i).1) } =>⟨[(0,true,.fn (.yield y.yl) [] []),(1,true,.dp [.d (.int .i64 g.guest),.d (.int .i64 g.host)]),(2,true,.dp [.d (.sl 1 (p.targets.map intD)),.d (.sl 1 (p.texts.map strD))]),(3,true,.dp [.d (.str d.data),.d (.sl 2 (d.cache.map putD)),.d (.int .i64 d.fuse),.d (.bool d.off),.d (.sl 1 (d.bad.map intD))]),(5,true,.d (.int .i64 i)),(6,true,.d (.int .i64 r.1.2)),(12,true,.d (.int .i64 g.host)),(13,true,.d (.int .i64 i)),(18,true,.osl 100 2 2 0 2),(19,true,.d (.int .i64 2)),(20,true,.d (.int .i64 r.1.1))],[(100,.arr 2 [[.sl 1 (p.targets.map intD),.sl 1 (p.texts.map strD)],[.sl 1 [],.sl 1 []]])],some xs⟩) (fun r=>2 - r.1.1) ⟨(0,0),.inl ⟨rfl,rfl⟩⟩ le1 (fun r=>?_)
  obtain ⟨⟨j,n⟩,hj⟩:=r
  simp only at hj ⊢
  have hc0:((0:Nat):Int)=0:=rfl
  have hc1:((1:Nat):Int)=1:=rfl
  have hc2:((2:Nat):Int)=2:=rfl
  have ht1:Int.toNat 1=1:=rfl
  have hw1:IntKind.i64.wrap 1=1:=by decide
  have hw2:IntKind.i64.wrap 2=2:=by decide
  rcases hj with ⟨rfl,rfl⟩|⟨rfl,he1,rfl⟩|⟨rfl,he1,he2,rfl⟩
  ·by_cases he:(rget d p i).2=0
   ·have hb:((rget d p i).2 !=0)=false:=by simpa using he
    have hwn:IntKind.i64.wrap (0+(rget d p i).1)=(rget d p i).1:=by rw [Int.zero_add];exact zg (by omega) (by omega)
    (have tk:=za zas <| zb Tryz.prog);repeat' (first|(refine zy (fun i=>decide (i<100)) (by simp only [inH,idsH,hsel,AV.ids,AV.idsL,AV.idsR,AObj.ids,hget,go_sem,aeq,aeq.aeqF,simprocAttr]) ?_;simp only [go_sem,aeq,aeq.aeqF,simprocAttr,hc0,hb,hwn,hsel,keepT];refine zH ?_;simp only [go_sem,aeq,aeq.aeqF,simprocAttr,hc0,hb,hwn])|((first|(refine ya ?_;intro K hK)|refine yb ?_);simp only [go_sem,aeq,aeq.aeqF,simprocAttr,hc0,hb,hwn])|refine zj (fun K hK=>?_)|refine sc ?_|refine zi rfl (fun hc=>?_) (fun hc=>?_)|(refine hK _ ?_;clear hK K)|((first|refine (show AS.le _ _ from ?_)|refine (show leH _ _ from ?_)|refine (show inH _ _ from ?_));simp only [AS.le,leT,leH,zc,AsgK,AV.le,AV.leL,AObj.le,inH,idsT,idsH,AV.ids,AV.idsL,AV.idsR,AObj.ids,lk,hget,go_sem,aeq,aeq.aeqF,simprocAttr,hc0,hb,hwn])|refine fun (r2:Rnd _)=>?_|with_reducible refine And.intro ?_ ?_|exact ‹_<+:_› |omega|assumption|refine fun (hg:(_:Bool)=(_:Bool))=>?_|clear hK K)
    exact ⟨⟨(1,(rget d p i).1),.inr (.inl ⟨rfl,he,rfl⟩)⟩,by simp only [AS.le,leT,leH,zc,AsgK,AV.le,AV.leL,AObj.le,inH,idsT,idsH,AV.ids,AV.idsL,AV.idsR,AObj.ids,lk,hget,go_sem,aeq,aeq.aeqF,simprocAttr,hw1]<;>and_intros<;>rfl,by simp⟩
   ·have hb:((rget d p i).2 !=0)=true:=by simpa using he
    rw [if_pos (by simpa using he)] at hf
    have hpr:(xs++ [[.d (.int .i64 0),.d (.int .i64 (rget d p i).2)]])<+:(freeL d p g.host.toNat 0).map freeI:=⟨[],by rw [← hf];simp [freeI]⟩
    (have tk:=za zas <| zb Tryz.prog);repeat' (first|(refine zy (fun i=>decide (i<100)) (by simp only [inH,idsH,hsel,AV.ids,AV.idsL,AV.idsR,AObj.ids,hget,go_sem,aeq,aeq.aeqF,simprocAttr]) ?_;simp only [go_sem,aeq,aeq.aeqF,simprocAttr,hc0,hb,hsel,keepT];refine zH ?_;simp only [go_sem,aeq,aeq.aeqF,simprocAttr,hc0,hb])|((first|(refine ya ?_;intro K hK)|refine yb ?_);simp only [go_sem,aeq,aeq.aeqF,simprocAttr,hc0,hb])|refine zj (fun K hK=>?_)|refine sc ?_|refine zi rfl (fun hc=>?_) (fun hc=>?_)|(refine hK _ ?_;clear hK K)|((first|refine (show AS.le _ _ from ?_)|refine (show leH _ _ from ?_)|refine (show inH _ _ from ?_));simp only [AS.le,leT,leH,zc,AsgK,AV.le,AV.leL,AObj.le,inH,idsT,idsH,AV.ids,AV.idsL,AV.idsR,AObj.ids,lk,hget,go_sem,aeq,aeq.aeqF,simprocAttr,hc0,hb])|refine fun (r2:Rnd _)=>?_|with_reducible refine And.intro ?_ ?_|exact ‹_<+:_› |omega|assumption|refine fun (hg:(_:Bool)=(_:Bool))=>?_|clear hK K)
    rintro zs rfl
    rw [← hf]
    simp [freeI]
  ·by_cases he:(rget d ⟨[],[]⟩ i).2=0
   ·have hb:((rget d ⟨[],[]⟩ i).2 !=0)=false:=by simpa using he
    have hwn:IntKind.i64.wrap ((rget d p i).1+(rget d ⟨[],[]⟩ i).1)=(rget d p i).1+(rget d ⟨[],[]⟩ i).1:=zg (by omega) (by omega)
    (have tk:=za zas <| zb Tryz.prog);repeat' (first|(refine zy (fun i=>decide (i<100)) (by simp only [inH,idsH,hsel,AV.ids,AV.idsL,AV.idsR,AObj.ids,hget,go_sem,aeq,aeq.aeqF,simprocAttr]) ?_;simp only [go_sem,aeq,aeq.aeqF,simprocAttr,hc1,ht1,hb,hwn,hsel,keepT];refine zH ?_;simp only [go_sem,aeq,aeq.aeqF,simprocAttr,hc1,ht1,hb,hwn])|((first|(refine ya ?_;intro K hK)|refine yb ?_);simp only [go_sem,aeq,aeq.aeqF,simprocAttr,hc1,ht1,hb,hwn])|refine zj (fun K hK=>?_)|refine sc ?_|refine zi rfl (fun hc=>?_) (fun hc=>?_)|(refine hK _ ?_;clear hK K)|((first|refine (show AS.le _ _ from ?_)|refine (show leH _ _ from ?_)|refine (show inH _ _ from ?_));simp only [AS.le,leT,leH,zc,AsgK,AV.le,AV.leL,AObj.le,inH,idsT,idsH,AV.ids,AV.idsL,AV.idsR,AObj.ids,lk,hget,go_sem,aeq,aeq.aeqF,simprocAttr,hc1,ht1,hb,hwn])|refine fun (r2:Rnd _)=>?_|with_reducible refine And.intro ?_ ?_|exact ‹_<+:_› |omega|assumption|refine fun (hg:(_:Bool)=(_:Bool))=>?_|clear hK K)
    exact ⟨⟨(2,(rget d p i).1+(rget d ⟨[],[]⟩ i).1),.inr (.inr ⟨rfl,he1,he,rfl⟩)⟩,by simp only [AS.le,leT,leH,zc,AsgK,AV.le,AV.leL,AObj.le,inH,idsT,idsH,AV.ids,AV.idsL,AV.idsR,AObj.ids,lk,hget,go_sem,aeq,aeq.aeqF,simprocAttr,hw2]<;>and_intros<;>rfl,by simp⟩
   ·have hb:((rget d ⟨[],[]⟩ i).2 !=0)=true:=by simpa using he
    rw [if_neg (by rw [he1];decide),if_pos (by simpa using he)] at hf
    have hpr:(xs++ [[.d (.int .i64 0),.d (.int .i64 (rget d ⟨[],[]⟩ i).2)]])<+:(freeL d p g.host.toNat 0).map freeI:=⟨[],by rw [← hf];simp [freeI]⟩
    (have tk:=za zas <| zb Tryz.prog);repeat' (first|(refine zy (fun i=>decide (i<100)) (by simp only [inH,idsH,hsel,AV.ids,AV.idsL,AV.idsR,AObj.ids,hget,go_sem,aeq,aeq.aeqF,simprocAttr]) ?_;simp only [go_sem,aeq,aeq.aeqF,simprocAttr,hc1,ht1,hb,hsel,keepT];refine zH ?_;simp only [go_sem,aeq,aeq.aeqF,simprocAttr,hc1,ht1,hb])|((first|(refine ya ?_;intro K hK)|refine yb ?_);simp only [go_sem,aeq,aeq.aeqF,simprocAttr,hc1,ht1,hb])|refine zj (fun K hK=>?_)|refine sc ?_|refine zi rfl (fun hc=>?_) (fun hc=>?_)|(refine hK _ ?_;clear hK K)|((first|refine (show AS.le _ _ from ?_)|refine (show leH _ _ from ?_)|refine (show inH _ _ from ?_));simp only [AS.le,leT,leH,zc,AsgK,AV.le,AV.leL,AObj.le,inH,idsT,idsH,AV.ids,AV.idsL,AV.idsR,AObj.ids,lk,hget,go_sem,aeq,aeq.aeqF,simprocAttr,hc1,ht1,hb])|refine fun (r2:Rnd _)=>?_|with_reducible refine And.intro ?_ ?_|exact ‹_<+:_› |omega|assumption|refine fun (hg:(_:Bool)=(_:Bool))=>?_|clear hK K)
    rintro zs rfl
    rw [← hf]
    simp [freeI]
  ·rw [if_neg (by rw [he1];decide),if_neg (by rw [he2];decide)] at hf
   by_cases hz1:(rget d p i).1=0∧(rget d ⟨[],[]⟩ i).1=0
   ·have hb:((rget d p i).1+(rget d ⟨[],[]⟩ i).1==0)=true:=by rw [beq_iff_eq];omega
    rw [if_pos hz1] at hf
    have hpr:(xs++ [[.d (.int .i64 i),.d (.int .i64 0)]])<+:(freeL d p g.host.toNat 0).map freeI:=⟨(freeL d p (g.host.toNat - (i+1)) (i+1)).map freeI,by rw [← hf];simp [freeI]⟩
    (have tk:=za zas <| zb Tryz.prog);repeat' (first|(refine zy (fun i=>decide (i<100)) (by simp only [inH,idsH,hsel,AV.ids,AV.idsL,AV.idsR,AObj.ids,hget,go_sem,aeq,aeq.aeqF,simprocAttr]) ?_;simp only [go_sem,aeq,aeq.aeqF,simprocAttr,hc2,hb,hsel,keepT];refine zH ?_;simp only [go_sem,aeq,aeq.aeqF,simprocAttr,hc2,hb])|((first|(refine ya ?_;intro K hK)|refine yb ?_);simp only [go_sem,aeq,aeq.aeqF,simprocAttr,hc2,hb])|refine zj (fun K hK=>?_)|refine sc ?_|refine zi rfl (fun hc=>?_) (fun hc=>?_)|(refine hK _ ?_;clear hK K)|((first|refine (show AS.le _ _ from ?_)|refine (show leH _ _ from ?_)|refine (show inH _ _ from ?_));simp only [AS.le,leT,leH,zc,AsgK,AV.le,AV.leL,AObj.le,inH,idsT,idsH,AV.ids,AV.idsL,AV.idsR,AObj.ids,lk,hget,go_sem,aeq,aeq.aeqF,simprocAttr,hc2,hb])|refine fun (r2:Rnd _)=>?_|with_reducible refine And.intro ?_ ?_|exact ‹_<+:_› |omega|assumption|refine fun (hg:(_:Bool)=(_:Bool))=>?_|clear hK K)
    exact ⟨⟨(i+1,xs++ [freeI (i,0)]),by show ((i+1:Nat):Int)≤_;omega,by rw [← hf];simp [freeI]⟩,by simp only [AS.le,leT,leH,zc,AsgK,AV.le,AV.leL,AObj.le,inH,idsT,idsH,AV.ids,AV.idsL,AV.idsR,AObj.ids,lk,hget,go_sem,aeq,aeq.aeqF,simprocAttr,hwi,freeI],by simp;omega⟩
   ·have hb:((rget d p i).1+(rget d ⟨[],[]⟩ i).1==0)=false:=by rw [beq_eq_false_iff_ne];omega
    rw [if_neg hz1] at hf
    (have tk:=za zas <| zb Tryz.prog);repeat' (first|(refine zy (fun i=>decide (i<100)) (by simp only [inH,idsH,hsel,AV.ids,AV.idsL,AV.idsR,AObj.ids,hget,go_sem,aeq,aeq.aeqF,simprocAttr]) ?_;simp only [go_sem,aeq,aeq.aeqF,simprocAttr,hc2,hb,hsel,keepT];refine zH ?_;simp only [go_sem,aeq,aeq.aeqF,simprocAttr,hc2,hb])|((first|(refine ya ?_;intro K hK)|refine yb ?_);simp only [go_sem,aeq,aeq.aeqF,simprocAttr,hc2,hb])|refine zj (fun K hK=>?_)|refine sc ?_|refine zi rfl (fun hc=>?_) (fun hc=>?_)|(refine hK _ ?_;clear hK K)|((first|refine (show AS.le _ _ from ?_)|refine (show leH _ _ from ?_)|refine (show inH _ _ from ?_));simp only [AS.le,leT,leH,zc,AsgK,AV.le,AV.leL,AObj.le,inH,idsT,idsH,AV.ids,AV.idsL,AV.idsR,AObj.ids,lk,hget,go_sem,aeq,aeq.aeqF,simprocAttr,hc2,hb])|refine fun (r2:Rnd _)=>?_|with_reducible refine And.intro ?_ ?_|exact ‹_<+:_› |omega|assumption|refine fun (hg:(_:Bool)=(_:Bool))=>?_|clear hK K)
    exact ⟨⟨(i+1,xs),by show ((i+1:Nat):Int)≤_;omega,by rw [← hf];simp⟩,lew,by simp;omega⟩
 ·have hcmp:decide ((i:Int)<g.host)=false:=decide_eq_false hlt
  (have tk:=za zas <| zb Tryz.prog);repeat' (first|(refine zy (fun i=>decide (i<100)) (by simp only [inH,idsH,hsel,AV.ids,AV.idsL,AV.idsR,AObj.ids,hget,go_sem,aeq,aeq.aeqF,simprocAttr]) ?_;simp only [go_sem,aeq,aeq.aeqF,simprocAttr,hcmp,hsel,keepT];refine zH ?_;simp only [go_sem,aeq,aeq.aeqF,simprocAttr,hcmp])|((first|(refine ya ?_;intro K hK)|refine yb ?_);simp only [go_sem,aeq,aeq.aeqF,simprocAttr,hcmp])|refine zj (fun K hK=>?_)|refine sc ?_|refine zi rfl (fun hc=>?_) (fun hc=>?_)|(refine hK _ ?_;clear hK K)|((first|refine (show AS.le _ _ from ?_)|refine (show leH _ _ from ?_)|refine (show inH _ _ from ?_));simp only [AS.le,leT,leH,zc,AsgK,AV.le,AV.leL,AObj.le,inH,idsT,idsH,AV.ids,AV.idsL,AV.idsR,AObj.ids,lk,hget,go_sem,aeq,aeq.aeqF,simprocAttr,hcmp])|refine fun (r2:Rnd _)=>?_|with_reducible refine And.intro ?_ ?_|exact ‹_<+:_› |omega|assumption|refine fun (hg:(_:Bool)=(_:Bool))=>?_|clear hK K)
  rintro zs rfl
  rw [← hf,show g.host.toNat - i=0 by omega]
  simp [freeL]
theorem zsA (d:Disk) (p:Plan) (g:Geom) (hp:DP d p∧g.host≤1000000):AC 151 [diskA d,planA p,geomA g] (.tup [.d (.int .i64 (rfind d p g).1),.d (.int .i64 (rfind d p g).2)]):=by
 obtain ⟨h,hg⟩:=hp
 refine fbod Tryz.func151 Tryz.ntmps151 (fun base=>?_)
 (have tk:=za zeF <| zb Tryz.prog;repeat' (first|(refine hK _ ?_;clear hK K)|refine wa fun K hK=>?_|refine wb ?_|refine wc ?_ ?_|refine wl ?_|refine fun (r2:Rnd _)=>?_|exact ‹_<+:_› |exact we|clear hK K))
 have hrf:rfind d p g=(freeL d p g.host.toNat 0).headD (0,17):=zhJ d p _ _
 obtain ⟨I,hI⟩:∃I:List (List AV)→AHeap×Option (List (List AV)),I=fun xs=>([(4,.var [.d (.int .i64 17)]),(3,.var [.d (.int .i64 0)]),(2,.var [.d (.int .i64 g.guest),.d (.int .i64 g.host)]),(1,(.var [.d (.sl 1 (p.targets.map intD)),.d (.sl 1 (p.texts.map strD))])),(0,(.var [.d (.str d.data),.d (.sl 2 (d.cache.map putD)),.d (.int .i64 d.fuse),.d (.bool d.off),.d (.sl 1 (d.bad.map intD))]))],some []):=⟨_,rfl⟩
 obtain ⟨G,hG⟩:∃G:List (List AV)→Prop,G=fun xs=>(xs≠ []→False):=⟨_,rfl⟩
 obtain ⟨J,hJ⟩:∃J:Code→AHeap→Option (List (List AV))→Prop,J=fun c h gg=>c= .exit 0∧gg=some []∧h= [(4,.var [.d (.int .i64 (rfind d p g).2)]),(3,.var [.d (.int .i64 (rfind d p g).1)]),(2,.var [.d (.int .i64 g.guest),.d (.int .i64 g.host)]),(1,(.var [.d (.sl 1 (p.targets.map intD)),.d (.sl 1 (p.texts.map strD))])),(0,(.var [.d (.str d.data),.d (.sl 2 (d.cache.map putD)),.d (.int .i64 d.fuse),.d (.bool d.off),.d (.sl 1 (d.bad.map intD))]))]:=⟨_,rfl⟩
 refine zch 100 G I J (zmo d p g h hg) (by simp only [go_sem,aeq,aeq.aeqF,simprocAttr]) rfl (zap rfl) (by simp [cxOf,cxY]) rfl (by rw [hG];first|trivial|rfl|simp) (by rw [hI];simp only [AS.le,leT,leH,zc,AsgK,AV.le,AV.leL,AObj.le,inH,idsT,idsH,AV.ids,AV.idsL,AV.idsR,AObj.ids,lk,hget,go_sem,aeq,aeq.aeqF,simprocAttr]<;>simp [AV.leL,AV.le]) (by rw [hI];simp only [AS.le,leT,leH,zc,AsgK,AV.le,AV.leL,AObj.le,inH,idsT,idsH,AV.ids,AV.idsL,AV.idsR,AObj.ids,lk,hget,go_sem,aeq,aeq.aeqF,simprocAttr]<;>simp) (by rw [hI]<;>rfl) (by intro x hx;obtain ⟨q,_,rfl⟩:=List.mem_map.1 hx;rfl) (by intro t ht;simp at ht;first|(rcases ht with rfl|rfl<;>simp [cxOf,cxY]<;>done)|(subst ht;simp [cxOf,cxY])) ?_ ?_ ?_
 ·intro xs x hpre hgd l1 r1
  rw [hG] at hgd
  obtain rfl:xs= []:=Classical.byContradiction hgd
  obtain ⟨ys,⟨a,e⟩,zs,hys,rfl,hzl⟩:=zeg hpre
  have hys0:ys= []:=by cases ys with|nil=>rfl|cons q r=>simp at hys
  subst hys0
  have hfe:rfind d p g=(a,e):=by rw [hrf,hzl];rfl
  simp only [freeI]
  refine aw_le ⟨[(14,true,.d (.int .i64 a)),(15,true,.d (.int .i64 e)),(8,true,.vp 3 0),(9,true,.vp 4 0)],[(4,.var [.d (.int .i64 17)]),(3,.var [.d (.int .i64 0)]),(2,.var [.d (.int .i64 g.guest),.d (.int .i64 g.host)]),(1,(.var [.d (.sl 1 (p.targets.map intD)),.d (.sl 1 (p.texts.map strD))])),(0,(.var [.d (.str d.data),.d (.sl 2 (d.cache.map putD)),.d (.int .i64 d.fuse),.d (.bool d.off),.d (.sl 1 (d.bad.map intD))]))],some []⟩ (by rw [hI];simp only [AS.le,leT,leH,zc,AsgK,AV.le,AV.leL,AObj.le,inH,idsT,idsH,AV.ids,AV.idsL,AV.idsR,AObj.ids,lk,hget,go_sem,aeq,aeq.aeqF,simprocAttr]) ?_
  (have tk:=za zeF <| zb Tryz.prog;have fx:=hI;repeat' (first|(refine hK _ ?_;clear hK K)|refine wa fun K hK=>?_|refine wb ?_|refine wc ?_ ?_|refine wl ?_|refine fun (r2:Rnd _)=>?_|exact ‹_<+:_› |exact we|clear hK K))
  rw [hJ,hfe]
  exact ⟨rfl,rfl,rfl⟩
 ·intro hgd
  rw [hG] at hgd
  have hgd:=Classical.byContradiction hgd
  rw [hI]
  (have tk:=za zeF <| zb Tryz.prog;have fx:=Go.Aw.fx;repeat' (first|(refine hK _ ?_;clear hK K)|refine wa fun K hK=>?_|refine wb ?_|refine wc ?_ ?_|refine wl ?_|refine fun (r2:Rnd _)=>?_|exact ‹_<+:_› |exact we|clear hK K))
  have hfl:freeL d p g.host.toNat 0= []:=by simpa using hgd
  rw [hrf,hfl]
  rfl
 ·rw [hJ]
  rintro c h3 g3 ⟨rfl,rfl,rfl⟩
  (have tk:=za zeF <| zb Tryz.prog;have fx:=Go.Aw.fx;repeat' (first|(refine hK _ ?_;clear hK K)|refine wa fun K hK=>?_|refine wb ?_|refine wc ?_ ?_|refine wl ?_|refine fun (r2:Rnd _)=>?_|exact ‹_<+:_› |exact we|clear hK K))
@[go_sem] noncomputable def zoI:Ent Tryz.prog 151:= .m3 zq zw zdT zsA
theorem zsB (d:Disk) (p:Plan) (g:Geom) (hp:DP d p∧g.host≤1000000):AC 76 [diskA d,planA p,geomA g] (.tup [planA (rtake d p g).1,.d (.int .i64 (rtake d p g).2.1),.d (.int .i64 (rtake d p g).2.2)]):=by
 obtain ⟨h,hg⟩:=hp
 refine fbod Tryz.func76 Tryz.ntmps76 (fun base=>?_)
 (have tk:=za zoI <| za zbg <| zb Tryz.prog;repeat' (first|(refine hK _ ?_;clear hK K)|refine wa fun K hK=>?_|refine wb ?_|refine wc ?_ ?_|exact we|refine fun (hc:_=(_:Bool))=>?_|clear hK K))
 all_goals simp_all [rtake]
@[go_sem] noncomputable def zeG:Ent Tryz.prog 76:= .m3 zq zw zdT zsB
open Go Go.Proofs
structure Root where
 l1:Int
 next:Int
 deriving DecidableEq
def rootA (r:Root):AV:= .agg [.d (.int .i64 r.l1),.d (.int .u32 r.next)]
attribute [go_sem] rootA
theorem zsf (r:Root):Root.mk r.l1 r.next=r:=rfl
noncomputable def zhw:PT Root:=aggT (consL (intT .i64) (consL (intT .u32) nilL)) (fun p=>⟨p.1,p.2.1⟩) (fun x=>(x.l1,x.next,())) (fun _=>rfl)
attribute [go_sem] zhw
attribute [go_sem] zsf
def znn:Txt:= [67,79,70,82]
def zcB (r:Root):Txt:=znn++putN r.l1.toNat 2++putN r.next.toNat 4
def zjo (r:Root):Txt:=padR (zcB r++zeP (sumOf 0 (zcB r)))
def zbK (s:Txt):Root:=⟨((takeN ((s.drop 4).take 2):Nat):Int),((takeN ((s.drop 6).take 4):Nat):Int)⟩
def rootT (s:Txt):Root×Int:=
 if s.take 4≠znn then (⟨0,0⟩,14)
 else if zeP (sumOf 0 (s.take 10))≠(s.take 14).drop 10 then (⟨0,0⟩,15)
 else if zM (zbK s).l1=false∨zjo (zbK s)≠s then (⟨0,0⟩,14)
 else (zbK s,0)
def zA (d:Disk) (p:Plan):Root×Int:=if (plook d p 1).2≠0 then (⟨0,0⟩,(plook d p 1).2) else rootT (plook d p 1).1
def za7 (p:Plan) (r:Root):Plan×Int:=if zM r.l1=false then (p,10) else pset p 1 (zjo r)
theorem zgr (r:Root):(zcB r).length=10:=by
 rw [zcB,List.length_append,List.length_append,zP,zP];rfl
theorem zfZ (s:Txt):0≤(zbK s).l1∧(zbK s).l1≤65535∧0≤(zbK s).next∧(zbK s).next≤4294967295:=by
 have h1:=zbw (l:=(s.drop 4).take 2) (i:=2) (by rw [List.length_take];omega)
 have h2:=zbw (l:=(s.drop 6).take 4) (i:=4) (by rw [List.length_take];omega)
 simp only [zbK]
 omega
theorem zjp (k:Int) (_:True):AC 63 [.d (.int .i64 k)] (.d (.bool (zM k))):=by
 refine bod Tryz.func63 Tryz.ntmps63 (fun base=>?_)
 (repeat' (first|(refine hK _ ?_;clear hK K)|refine wa fun K hK=>?_|refine wb ?_|refine wc ?_ ?_|exact we|refine fun (hc:_=(_:Bool))=>?_|clear hK K))
 rfl
@[go_sem] noncomputable def zaI:Ent Tryz.prog 63:= .m1 (intT .i64) zjp
theorem zeD {x:Int} (h0:0≤x) (h1:x≤4294967295):IntKind.u32.wrap x=x:=by rw [IntKind.wrap_u32];omega
theorem zoh (t:Root) (hp:0≤t.l1∧t.l1≤65535∧0≤t.next∧t.next≤4294967295):AC 64 [rootA t] (.d (.str (zjo t))):=by
 obtain ⟨h0,h1,h2,h3⟩:=hp
 refine fbod Tryz.func64 Tryz.ntmps64 (fun base=>?_)
 have hw1:IntKind.u64.wrap t.l1=t.l1:=zad h0 (by omega)
 have hw2:IntKind.u64.wrap t.next=t.next:=zad h2 (by omega)
 have hl1:=zP t.l1.toNat 2
 have hl2:=zP t.next.toNat 4
 have hhd:(67:UInt8)::79::70::82::putN t.l1.toNat 2++putN t.next.toNat 4=zcB t:=rfl
 have hhl:=zgr t
 have hs:=ze1 0 (zcB t) (by omega) (by omega)
 have hbl:=zcI (sumOf 0 (zcB t))
 (have tk:=za zar <| za za6 <| za zav <| za zdt <| zb Tryz.prog);repeat' (first|((first|(refine ga ?_;intro K hK)|refine gb ?_);simp only [go_sem,aeq,aeq.aeqF,simprocAttr,hw1,hw2,zhv,ziA,List.length_cons,List.length_nil,hl1,hl2,hhd,hhl,hbl,List.length_append,Tryz.results64])|refine zj (fun K hK=>?_)|(refine hK _ ?_;clear hK K)|with_reducible refine And.intro ?_ ?_|(refine (show zaq _ _=true from ?_);kernel_rfl)|omega|assumption|clear hK K)
 rfl
@[go_sem] noncomputable def zdd:Ent Tryz.prog 64:= .m1 zhw zoh
theorem zqh (d:Disk) (p:Plan) (h:DP d p):AC 22 [diskA d,planA p] (.tup [rootA (zA d p).1,.d (.int .i64 (zA d p).2)]):=by
 refine fbod Tryz.func22 Tryz.ntmps22 (fun base=>?_)
 have h1:=h.dok
 have h2:=h.pok
 have h3:=h.plen
 by_cases he:(plook d p 1).2=0
 ·have hb:((plook d p 1).2 !=0)=false:=by simpa using he
  have h64:=zcA h he
  have hrg:zA d p=rootT (plook d p 1).1:=by rw [zA,if_neg (by simpa using he)]
  obtain ⟨S,hS⟩:∃S,S=(plook d p 1).1:=⟨_,rfl⟩
  rw [← hS] at h64 hrg
  have hr:=zfZ S
  have htk:List.take S.length S=S:=List.take_length
  have ht2:=zcs (s:=S.drop 4) (z:=2) 2 rfl (by omega) (by omega) (by rw [List.length_drop];omega)
  have ht4:=zcs (s:=S.drop 6) (z:=4) 4 rfl (by omega) (by omega) (by rw [List.length_drop];omega)
  have hwl:IntKind.i64.wrap (zbK S).l1=(zbK S).l1:=zg (by omega) (by omega)
  have hwn:IntKind.u32.wrap (zbK S).next=(zbK S).next:=zeD (by omega) (by omega)
  simp only [zbK] at hwl hwn hr
  have hL1:(List.take 10 S).length≤64:=by rw [List.length_take];omega
  have hL2:(List.drop 4 S).length≤64:=by rw [List.length_drop];omega
  have hL3:(List.drop 6 S).length≤64:=by rw [List.length_drop];omega
  have hsr:=ze1 0 (S.take 10) (by omega) (by omega)
  (have tk:=za zx <| za za6 <| za zav <| za zS <| za zaI <| za zdd <| zb Tryz.prog;have fx:=(⟨hS.symm,hb,htk,ht2,ht4,hwl,hwn⟩:_∧_∧_∧_∧_∧_∧_);(repeat' (first|(refine hK _ ?_;clear hK K)|refine va fun K hK=>?_|refine vb ?_|refine wc ?_ ?_|exact we|refine fun (hc:_=(_:Bool))=>?_|clear hK K));all_goals clear fx)
  all_goals (rw [hrg,rootT];clear ht2 ht4 hwl hwn htk;simp_all [zbK,znn];done)
 ·have hb:((plook d p 1).2 !=0)=true:=by simpa using he
  (have tk:=za zx <| za za6 <| za zav <| za zS <| za zaI <| za zdd <| zb Tryz.prog;have fx:=hb;repeat' (first|(refine hK _ ?_;clear hK K)|refine va fun K hK=>?_|refine vb ?_|refine wc ?_ ?_|exact we|refine fun (hc:_=(_:Bool))=>?_|clear hK K))
  rw [zA,if_pos he]
@[go_sem] noncomputable def zag:Ent Tryz.prog 22:= .m2 zq zw zqh
theorem zqi (p:Plan) (t:Root) (hp:pfit p=true∧0≤t.next∧t.next≤4294967295):AC 88 [planA p,rootA t] (.tup [planA (za7 p t).1,.d (.int .i64 (za7 p t).2)]):=by
 obtain ⟨hp,h2,h3⟩:=hp
 refine fbod Tryz.func88 Tryz.ntmps88 (fun base=>?_)
 obtain ⟨hl,h24,h64⟩:=zaz hp
 have hpo:PlanOk p:=⟨by omega,by omega⟩
 by_cases hk:zM t.l1=true
 ·obtain ⟨hk0,hk1⟩:=hostOk_iff.1 hk
  (have tk:=za zaI <| za zdd <| za zaN <| zb Tryz.prog;have fx:=hk;repeat' (first|(refine hK _ ?_;clear hK K)|refine va fun K hK=>?_|refine vb ?_|refine wc ?_ ?_|exact we|refine fun (hc:_=(_:Bool))=>?_|clear hK K))
  rw [za7,if_neg (by rw [hk];exact fun h=>by cases h)]
 ·have hk:zM t.l1=false:=by simpa using hk
  (have tk:=za zaI <| za zdd <| za zaN <| zb Tryz.prog;have fx:=hk;repeat' (first|(refine hK _ ?_;clear hK K)|refine va fun K hK=>?_|refine vb ?_|refine wc ?_ ?_|exact we|refine fun (hc:_=(_:Bool))=>?_|clear hK K))
  rw [za7,if_pos hk]
@[go_sem] noncomputable def zbD:Ent Tryz.prog 88:= .m2 zw zhw zqi
theorem zoi (k:Int) (_:True):AC 158 [.d (.int .i64 k)] (.d (.bool (!zM k))):=by
 refine bod Tryz.func158 Tryz.ntmps158 (fun base=>?_)
 (repeat' (first|(refine hK _ ?_;clear hK K)|refine wa fun K hK=>?_|refine wb ?_|refine wc ?_ ?_|exact we|refine fun (hc:_=(_:Bool))=>?_|clear hK K))
 rw [zbJ]
@[go_sem] noncomputable def zbL:Ent Tryz.prog 158:= .m1 (intT .i64) zoi
theorem zoj (t:Root) (hp:0≤t.l1∧t.l1≤65535∧0≤t.next∧t.next≤4294967295):AC 160 [rootA t] (.d (.str (zjo t))):=by
 obtain ⟨h0,h1,h2,h3⟩:=hp
 refine fbod Tryz.func160 Tryz.ntmps160 (fun base=>?_)
 have hw1:IntKind.u64.wrap t.l1=t.l1:=zad h0 (by omega)
 have hw2:IntKind.u64.wrap t.next=t.next:=zad h2 (by omega)
 have hl1:=zP t.l1.toNat 2
 have hl2:=zP t.next.toNat 4
 have hhd:(67:UInt8)::79::70::82::putN t.l1.toNat 2++putN t.next.toNat 4=zcB t:=rfl
 have hhl:=zgr t
 have hbl:=zcI (sumOf 0 (zcB t))
 (have tk:=za zce <| za zcG <| za zbj <| za zfl <| zb Tryz.prog);repeat' (first|((first|(refine ga ?_;intro K hK)|refine gb ?_);simp only [go_sem,aeq,aeq.aeqF,simprocAttr,hw1,hw2,zhv,ziA,List.length_cons,List.length_nil,hl1,hl2,hhd,hhl,hbl,List.length_append,Tryz.results160])|refine zj (fun K hK=>?_)|(refine hK _ ?_;clear hK K)|with_reducible refine And.intro ?_ ?_|(refine (show zaq _ _=true from ?_);kernel_rfl)|omega|assumption|clear hK K)
 rfl
@[go_sem] noncomputable def zde:Ent Tryz.prog 160:= .m1 zhw zoj
theorem zok (s:Txt) (at_ size:Int) (hp:0≤at_∧at_≤s.length∧s.length≤9223372036854775807):AC 192 [.d (.str s),.d (.int .i64 at_),.d (.int .i64 size)] (.d (.int .u64 (takeS (s.drop at_.toNat) size).1)):=by
 obtain ⟨h0,h1,hs⟩:=hp
 refine fbod Tryz.func192 Tryz.ntmps192 (fun base=>?_)
 have htk:List.take s.length s=s:=List.take_length
 have hL2:(List.drop at_.toNat s).length≤9223372036854775807:=by rw [List.length_drop];omega
 (have tk:=za zbt <| zb Tryz.prog;have fx:=htk;repeat' (first|(refine hK _ ?_;clear hK K)|refine wa fun K hK=>?_|refine wb ?_|refine wc ?_ ?_|exact we|clear hK K))
@[go_sem] noncomputable def zek:Ent Tryz.prog 192:= .m3 strT (intT .i64) (intT .i64) zok
theorem zol (d:Disk) (p:Plan) (h:DP d p):AC 124 [diskA d,planA p] (.tup [rootA (zA d p).1,.d (.int .i64 (zA d p).2)]):=by
 refine fbod Tryz.func124 Tryz.ntmps124 (fun base=>?_)
 have h1:=h.dok
 have h2:=h.pok
 have h3:=h.plen
 by_cases he:(plook d p 1).2=0
 ·have hb:((plook d p 1).2 !=0)=false:=by simpa using he
  have h64:=zcA h he
  have hrg:zA d p=rootT (plook d p 1).1:=by rw [zA,if_neg (by simpa using he)]
  obtain ⟨S,hS⟩:∃S,S=(plook d p 1).1:=⟨_,rfl⟩
  rw [← hS] at h64 hrg
  have hr:=zfZ S
  have htk:List.take S.length S=S:=List.take_length
  have ht2:=zcs (s:=S.drop 4) (z:=2) 2 rfl (by omega) (by omega) (by rw [List.length_drop];omega)
  have ht4:=zcs (s:=S.drop 6) (z:=4) 4 rfl (by omega) (by omega) (by rw [List.length_drop];omega)
  have hwl:IntKind.i64.wrap (zbK S).l1=(zbK S).l1:=zg (by omega) (by omega)
  have hwn:IntKind.u32.wrap (zbK S).next=(zbK S).next:=zeD (by omega) (by omega)
  simp only [zbK] at hwl hwn hr
  have hL1:(List.take 10 S).length≤64:=by rw [List.length_take];omega
  have hpx:List.isPrefixOf [67,79,70,82] S=(S.take 4== [67,79,70,82]):=by
   rw [Bool.eq_iff_iff,List.isPrefixOf_iff_prefix,List.prefix_iff_eq_take,beq_iff_eq]
   exact ⟨fun h=>h.symm,fun h=>h.symm⟩
  (have tk:=za zW <| za zcG <| za zbj <| za zek <| za zbL <| za zde <| za zeM <| zb Tryz.prog;have fx:=(⟨hS.symm,hb,htk,ht2,ht4,hwl,hwn,hpx⟩:_∧_∧_∧_∧_∧_∧_∧_);(repeat' (first|(refine hK _ ?_;clear hK K)|refine va fun K hK=>?_|refine vb ?_|refine wc ?_ ?_|exact we|refine fun (hc:_=(_:Bool))=>?_|clear hK K));all_goals clear fx)
  all_goals (rw [hrg,rootT];clear ht2 ht4 hwl hwn htk hpx;simp_all [zbK,znn];done)
 ·have hb:((plook d p 1).2 !=0)=true:=by simpa using he
  (have tk:=za zW <| za zcG <| za zbj <| za zek <| za zbL <| za zde <| za zeM <| zb Tryz.prog;have fx:=hb;repeat' (first|(refine hK _ ?_;clear hK K)|refine va fun K hK=>?_|refine vb ?_|refine wc ?_ ?_|exact we|refine fun (hc:_=(_:Bool))=>?_|clear hK K))
  rw [zA,if_pos he]
@[go_sem] noncomputable def zcj:Ent Tryz.prog 124:= .m2 zq zw zol
open Go Go.Proofs
structure Snp where
 id:Int
 l1:Int
 name:Txt
 deriving DecidableEq
def snpA (s:Snp):AV:= .agg [.d (.int .u32 s.id),.d (.int .i64 s.l1),.d (.str s.name)]
attribute [go_sem] snpA
theorem ztT (s:Snp):Snp.mk s.id s.l1 s.name=s:=rfl
noncomputable def zfo:PT Snp:=aggT (consL (intT .u32) (consL (intT .i64) (consL strT nilL))) (fun p=>⟨p.1,p.2.1,p.2.2.1⟩) (fun x=>(x.id,x.l1,x.name,())) (fun _=>rfl)
attribute [go_sem] zfo
attribute [go_sem] ztT
def snpD (s:Snp):List D:= [.int .u32 s.id,.int .i64 s.l1,.str s.name]
theorem zdf:∀a b,snpD a=snpD b→a=b:=by
 rintro ⟨a,b,c⟩ ⟨a',b',c'⟩ h
 simp only [snpD,List.cons.injEq,D.str.injEq,D.int.injEq,true_and,and_true] at h
 rw [h.1,h.2.1,h.2.2]
def z16:Txt:=List.replicate 16 0
def snp0:Snp:=⟨0,0,[]⟩
def snpB (s:Snp):Txt×Bool:=
 if s.id=0∧s.l1=0∧s.name= [] then (z16,true)
 else if s.id=0∨zax s.name=false∨zM s.l1=false then ([],false)
 else (putN s.id.toNat 4++putN s.l1.toNat 2++ [0,0]++(nameS s.name).1,true)
def cutZ (s:Txt):Txt:=(s.reverse.dropWhile (· ==0)).reverse
def zdy (s:Txt):Txt×Int:=if s.length≠8 then ([],11) else if zax (cutZ s) then (cutZ s,0) else ([],19)
def snpR (b:Txt):Snp:=⟨((takeN (b.take 4):Nat):Int),((takeN ((b.drop 4).take 2):Nat):Int),(zdy (b.drop 8)).1⟩
def snpT (b:Txt):Snp:=if b=z16 then snp0 else snpR b
def snpOk (b:Txt):Bool:=(snpB (snpT b)).2&&((snpB (snpT b)).1==b)
def slotB (s:Txt) (i:Nat):Txt:=(s.take ((i % 4+1)*16)).drop (i % 4*16)
def zbM (d:Disk) (p:Plan):Nat→Nat→List Snp→List Snp×Int
 |0,_,l=>(l,0)
 |m+1,i,l=>if (plook d p (2+(i / 4:Nat))).2≠0 then ([],(plook d p (2+(i / 4:Nat))).2)
  else if snpOk (slotB (plook d p (2+(i / 4:Nat))).1 i) then zbM d p m (i+1) (l++ [snpT (slotB (plook d p (2+(i / 4:Nat))).1 i)]) else ([],14)
def snaps (d:Disk) (p:Plan):List Snp×Int:=zbM d p 8 0 []
def setsnap (d:Disk) (p:Plan) (i:Int) (s:Snp):Plan×Int:=
 if i<0∨8≤i then (p,10) else if (snpB s).2=false then (p,25) else zeh d p (2+i / 4) (i % 4*16) (snpB s).1
theorem zel {s:Txt} (h:zax s=true):(nameS s).1.length=8∧(nameS s).2=0∧(nameS s).1=s++List.replicate (8 - s.length) 0:=by
 have h8:s.length≤8:=by
  unfold zax at h
  simp only [Bool.and_eq_true,decide_eq_true_eq] at h
  exact h.2.2
 have e:nameS s=(s++List.replicate (8 - s.length) 0,0):=by
  rw [nameS,if_pos h,padS,if_neg (by omega)]
  congr 3
  omega
 rw [e]
 refine ⟨?_,rfl,rfl⟩
 rw [List.length_append,List.length_replicate]
 omega
theorem zlX (n:Int) (hp:0≤n∧n≤1000000):AC 197 [.d (.int .i64 n)] (.d (.str (List.replicate n.toNat 0))):=by
 obtain ⟨h0,h1⟩:=hp
 refine fbod Tryz.func197 Tryz.ntmps197 (fun base=>?_)
 (have tk:=zb Tryz.prog);repeat' (first|((first|(refine sa ?_;intro K hK)|refine sb ?_);simp only [go_sem,aeq,aeq.aeqF,simprocAttr,zds,zhf,zjc,if_true,Tryz.results197])|refine zj (fun K hK=>?_)|(refine hK _ ?_;clear hK K)|with_reducible refine And.intro ?_ ?_|omega|assumption|clear hK K)
 ·exact za1 _
 all_goals first|rfl|simp only [zan]
@[go_sem] noncomputable def zal:Ent Tryz.prog 197:= .m1 (intT .i64) zlX
theorem zqj (s:Txt) (hs:s.length≤9223372036854775807):AC 227 [.d (.str s)] (.tup [.d (.str (nameS s).1),.d (.int .i64 (nameS s).2)]):=by
 refine fbod Tryz.func227 Tryz.ntmps227 (fun base=>?_)
 cases hn:zax s with
 |false=>
  (have tk:=za zN <| za zdt <| zb Tryz.prog;have fx:=hn;repeat' (first|(refine hK _ ?_;clear hK K)|refine wa fun K hK=>?_|refine wb ?_|refine wc ?_ ?_|exact we|refine fun (hc:_=(_:Bool))=>?_|clear hK K))
  rw [nameS,if_neg (by rw [hn];decide)]
 |true=>
  (have tk:=za zN <| za zdt <| zb Tryz.prog;have fx:=hn;repeat' (first|(refine hK _ ?_;clear hK K)|refine wa fun K hK=>?_|refine wb ?_|refine wc ?_ ?_|exact we|refine fun (hc:_=(_:Bool))=>?_|clear hK K))
  rw [nameS,if_pos hn]
@[go_sem] noncomputable def ze2:Ent Tryz.prog 227:= .m1 strT zqj
theorem zf0 (s:Txt):((nameS s).2 !=0)= !zax s:=by
 cases h:zax s with
 |true=>rw [(zel h).2.1];rfl
 |false=>rw [nameS,if_neg (by rw [h];decide)];rfl
theorem zom (s:Snp) (hp:0≤s.id∧s.id≤4294967295∧s.name.length≤9223372036854775807):AC 163 [snpA s] (.tup [.d (.str (snpB s).1),.d (.bool (snpB s).2)]):=by
 obtain ⟨h0,h1,hn⟩:=hp
 refine fbod Tryz.func163 Tryz.ntmps163 (fun base=>?_)
 by_cases hz:s.id=0∧s.l1=0∧s.name= []
 ·have hb:(s.id==0&&(s.l1==0&&s.name== []))=true:=by simpa using hz
  (have tk:=za zal <| za ze2 <| za zaI <| za zar <| zb Tryz.prog;have fx:=hb;repeat' (first|(refine hK _ ?_;clear hK K)|refine va fun K hK=>?_|refine vb ?_|refine wc ?_ ?_|exact we|refine fun (hc:_=(_:Bool))=>?_|clear hK K))
  rw [snpB,if_pos hz]
  rfl
 have hb:(s.id==0&&(s.l1==0&&s.name== []))=false:=by rw [Bool.eq_false_iff];simpa using hz
 by_cases hc:s.id=0∨zax s.name=false∨zM s.l1=false
 ·have hb2:(s.id==0|| !zax s.name|| !zM s.l1)=true:=by simpa [or_assoc] using hc
  (have tk:=za zal <| za ze2 <| za zaI <| za zar <| zb Tryz.prog;have fx:=(⟨hb,@zf0,hb2⟩:_∧_∧_);repeat' (first|(refine hK _ ?_;clear hK K)|refine va fun K hK=>?_|refine vb ?_|refine wc ?_ ?_|exact we|refine fun (hc:_=(_:Bool))=>?_|clear hK K))
  rw [snpB,if_neg hz,if_pos hc]
 have hb2:(s.id==0|| !zax s.name|| !zM s.l1)=false:=by rw [Bool.eq_false_iff];simpa [or_assoc] using hc
 simp only [not_or,Bool.not_eq_false] at hc
 obtain ⟨hk0,hk1⟩:=hostOk_iff.1 hc.2.2
 have hw:IntKind.u64.wrap s.id=s.id:=zad h0 (by omega)
 have hw2:IntKind.u64.wrap s.l1=s.l1:=zad (by omega) (by omega)
 have hp1:=zP s.id.toNat 4
 have hp2:=zP s.l1.toNat 2
 have hp3:=(zel hc.2.1).1
 (have tk:=za zal <| za ze2 <| za zaI <| za zar <| zb Tryz.prog;have fx:=(⟨hb,@zf0,hb2,hw,hw2,@zhv,@ziA⟩:_∧_∧_∧_∧_∧_∧_);repeat' (first|(refine hK _ ?_;clear hK K)|refine va fun K hK=>?_|refine vb ?_|refine wc ?_ ?_|exact we|refine fun (hc:_=(_:Bool))=>?_|clear hK K))
 all_goals first|(simp only [List.length_append,List.length_cons,List.length_nil];omega)|skip
 rw [snpB,if_neg hz,if_neg (by simpa using hc)]
@[go_sem] noncomputable def zay:Ent Tryz.prog 163:= .m1 zfo zom
theorem zhx (l:Txt):cutZ (l++ [0])=cutZ l:=by simp [cutZ]
theorem zf1 (l:Txt) (c:UInt8) (h:c≠0):cutZ (l++ [c])=l++ [c]:=by
 have:(c==0)=false:=by simpa using h
 simp [cutZ,List.dropWhile_cons,this]
theorem zlY (s:Txt) (hs:s.length≤9223372036854775807):AC 198 [.d (.str s)] (.tup [.d (.str (zdy s).1),.d (.int .i64 (zdy s).2)]):=by
 refine fbod Tryz.func198 Tryz.ntmps198 (fun base=>?_)
 by_cases h8:s.length=8
 ·have hb:((s.length:Int) !=8)=false:=by rw [h8];rfl
  have htn:zdy s=if zax (cutZ s) then (cutZ s,0) else ([],19):=by rw [zdy,if_neg (fun h=>h h8)]
  (have tk:=za zN <| zb Tryz.prog;have fx:=hb;repeat' (first|(refine hK _ ?_;clear hK K)|refine wa fun K hK=>?_|refine wb ?_|refine wc ?_ ?_|exact we|refine fun (hc:_=(_:Bool))=>?_|clear hK K))
  refine zo (fun q: { n:Nat // n≤s.length∧cutZ s=cutZ (s.take n) } =>⟨[(0,true,.d (.str s)),(4,true,.d (.int .i64 q.1))],[],some []⟩) (fun q=>q.1) ⟨s.length,Nat.le_refl _,by rw [List.take_length]⟩ le0 (fun q=>?_)
  obtain ⟨n,hn,hf⟩:=q
  simp only at hn hf ⊢
  cases n with
  |zero=>
   have hg:decide ((0:Int)<((0:Nat):Int))=false:=rfl
   have hnn:zax []=false:=by decide
   (have tk:=za zN <| zb Tryz.prog;have fx:=(⟨hg,hnn⟩:_∧_);repeat' (first|(refine hK _ ?_;clear hK K)|refine wa fun K hK=>?_|refine wb ?_|refine wc ?_ ?_|exact we|refine fun (hc:_=(_:Bool))=>?_|clear hK K))
   rw [htn,hf]
   rfl
  | succ n=>
   have hg:decide ((0:Int)<((n+1:Nat):Int))=true:=decide_eq_true (by omega)
   have hw:IntKind.i64.wrap (((n+1:Nat):Int) - 1)=(n:Int):=by rw [zg (by omega) (by omega)];omega
   obtain ⟨c,hq⟩:=zaj (l:=s) (i:=n) (by omega)
   have hget:List.getD s n 0=c:=by rw [List.getD_eq_getElem?_getD,hq];rfl
   have htk:=zaZ hq
   by_cases h0:c=0
   ·have hz:((c.toNat:Int)==0)=true:=by rw [h0];rfl
    (have tk:=za zN <| zb Tryz.prog;have fx:=(⟨hg,hw,hget,hz⟩:_∧_∧_∧_);repeat' (first|(refine hK _ ?_;clear hK K)|refine wa fun K hK=>?_|refine wb ?_|refine wc ?_ ?_|exact we|refine fun (hc:_=(_:Bool))=>?_|clear hK K))
    exact ⟨⟨n,by omega,by rw [hf,htk,h0,zhx]⟩,by simp only [AS.le,leT,leH,zc,AsgK,AV.le,AV.leL,AObj.le,inH,idsT,idsH,AV.ids,AV.idsL,AV.idsR,AObj.ids,lk,hget,go_sem,aeq,aeq.aeqF,simprocAttr],by simp⟩
   ·have hz:((c.toNat:Int)==0)=false:=by
     rw [beq_eq_false_iff_ne]
     intro h
     exact h0 (UInt8.toNat_inj.1 (by simpa using h))
    have hcz:cutZ s=s.take (n+1):=by rw [hf,htk,zf1 _ _ h0]
    have hl:(s.take (n+1)).length≤9223372036854775807:=by rw [List.length_take];omega
    rw [hcz] at htn
    cases hnm:zax (s.take (n+1)) with
    |false=>
     (have tk:=za zN <| zb Tryz.prog;have fx:=(⟨hg,hw,hget,hz,hnm⟩:_∧_∧_∧_∧_);repeat' (first|(refine hK _ ?_;clear hK K)|refine wa fun K hK=>?_|refine wb ?_|refine wc ?_ ?_|exact we|refine fun (hc:_=(_:Bool))=>?_|clear hK K))
     rw [htn,if_neg (by rw [hnm];decide)]
    |true=>
     (have tk:=za zN <| zb Tryz.prog;have fx:=(⟨hg,hw,hget,hz,hnm⟩:_∧_∧_∧_∧_);repeat' (first|(refine hK _ ?_;clear hK K)|refine wa fun K hK=>?_|refine wb ?_|refine wc ?_ ?_|exact we|refine fun (hc:_=(_:Bool))=>?_|clear hK K))
     rw [htn,if_pos hnm]
 ·have hb:((s.length:Int) !=8)=true:=by simp;omega
  (have tk:=za zN <| zb Tryz.prog;have fx:=hb;repeat' (first|(refine hK _ ?_;clear hK K)|refine wa fun K hK=>?_|refine wb ?_|refine wc ?_ ?_|exact we|refine fun (hc:_=(_:Bool))=>?_|clear hK K))
  rw [zdy,if_pos h8]
@[go_sem] noncomputable def zaS:Ent Tryz.prog 198:= .m1 strT zlY
theorem ziC {d:Disk} {p:Plan} :∀ (m i:Nat) (l:List Snp),(zbM d p m i l).1.length≤l.length+m
 |0,i,l=>Nat.le_refl _
 | m+1,i,l=>by
  rw [zbM]
  split
  ·simp
  split
  ·refine Nat.le_trans (ziC m (i+1) _) ?_
   simp only [List.length_append,List.length_singleton]
   omega
  ·simp
theorem zqk {d:Disk} {p:Plan} :(snaps d p).1.length≤8:=by
 exact ziC (d:=d) (p:=p) 8 0 []
def zno (s:Snp):Prop:=0≤s.id∧s.id≤4294967295∧s.name.length≤8∧(snpB s).2=true
theorem zon (b:Txt):(zdy b).1.length≤8:=by
 unfold zdy
 split
 ·decide
 split
 ·rename_i h
  unfold zax at h
  simp only [Bool.and_eq_true,decide_eq_true_eq] at h
  exact h.2.2
 ·decide
theorem zjq (b:Txt):0≤(snpT b).id∧(snpT b).id≤4294967295∧(snpT b).name.length≤8∧0≤(snpT b).l1∧(snpT b).l1≤65535:=by
 unfold snpT
 split
 ·decide
 ·have h1:=zbw (l:=b.take 4) (i:=4) (by rw [List.length_take];omega)
  have h2:=zbw (l:=(b.drop 4).take 2) (i:=2) (by rw [List.length_take];omega)
  have h3:=zon (b.drop 8)
  unfold snpR
  simp only
  omega
theorem ziD {d:Disk} {p:Plan} :∀ (m i:Nat) (l:List Snp),(∀s∈l,zno s)→∀s∈(zbM d p m i l).1,zno s
 |0,i,l,h=>h
 | m+1,i,l,h=>by
  rw [zbM]
  split
  ·intro s hs;cases hs
  split
  ·rename_i hok
   refine ziD m (i+1) _ (fun s hs=>?_)
   rcases List.mem_append.1 hs with hs|hs
   ·exact h s hs
   ·rw [List.mem_singleton] at hs
    subst hs
    obtain ⟨h1,h2,h3,_,_⟩:=zjq (slotB (plook d p (2+(i / 4:Nat))).1 i)
    unfold snpOk at hok
    rw [Bool.and_eq_true] at hok
    exact ⟨h1,h2,h3,hok.1⟩
  ·intro s hs;cases hs
theorem zql {d:Disk} {p:Plan} :∀s∈(snaps d p).1,zno s:=ziD 8 0 [] (fun s hs=>by cases hs)
open Go Go.Proofs
structure Ent2 where
 kind:Int
 loc:Int
 deriving DecidableEq
def entA (x:Ent2):AV:= .agg [.d (.int .i64 x.kind),.d (.int .i64 x.loc)]
attribute [go_sem] entA
theorem ztU (x:Ent2):Ent2.mk x.kind x.loc=x:=rfl
noncomputable def zgs:PT Ent2:=aggT (consL (intT .i64) (consL (intT .i64) nilL)) (fun p=>⟨p.1,p.2.1⟩) (fun x=>(x.kind,x.loc,())) (fun _=>rfl)
attribute [go_sem] zgs
attribute [go_sem] ztU
def entOk (x:Ent2):Bool:=if x.kind=1 then zM x.loc else (x.kind==0||x.kind==2)&&x.loc==0
def zdg (x:Ent2):Txt:= [UInt8.ofNat x.kind.toNat,0,0,0]++putN x.loc.toNat 4
def entOf (s:Txt):Ent2:=⟨((s.getD 0 0).toNat:Int),((takeN ((s.drop 4).take 4):Nat):Int)⟩
def entT (s:Txt):Ent2×Int:=if entOk (entOf s)=false∨zdg (entOf s)≠s then (⟨0,0⟩,14) else (entOf s,0)
def eRef (table i:Int):Bool:= !zM table||decide (i<0)||decide (16≤i)
def eget (d:Disk) (p:Plan) (table i:Int):Ent2×Int:=
 if eRef table i then (⟨0,0⟩,10) else if (plook d p (96+2*table+i / 8)).2≠0 then (⟨0,0⟩,(plook d p (96+2*table+i / 8)).2)
 else entT (((plook d p (96+2*table+i / 8)).1.take (i % 8*8+8).toNat).drop (i % 8*8).toNat)
def eset (d:Disk) (p:Plan) (table i:Int) (x:Ent2):Plan×Int:=
 if eRef table i then (p,10) else if entOk x=false then (p,23) else zeh d p (96+2*table+i / 8) (i % 8*8) (zdg x)
def zbb (p:Plan) (tt:Int) (f:Plan→Int→Txt×Int):Nat→Int→Plan→Plan×Int
 |0,_,q=>(q,0)
 |m+1,i,q=>if (f q i).2≠0 then (p,(f q i).2) else if (pset q (96+2*tt+i) (f q i).1).2≠0 then (p,(pset q (96+2*tt+i) (f q i).1).2)
  else zbb p tt f m (i+1) (pset q (96+2*tt+i) (f q i).1).1
def z64:Txt:=List.replicate 64 0
theorem zsg:bytesOf [[D.int .u8 0],[D.int .u8 0],[D.int .u8 0],[D.int .u8 0],[D.int .u8 0],[D.int .u8 0],[D.int .u8 0],[D.int .u8 0],[D.int .u8 0],[D.int .u8 0],[D.int .u8 0],[D.int .u8 0],[D.int .u8 0],[D.int .u8 0],[D.int .u8 0],[D.int .u8 0],[D.int .u8 0],[D.int .u8 0],[D.int .u8 0],[D.int .u8 0],[D.int .u8 0],[D.int .u8 0],[D.int .u8 0],[D.int .u8 0],[D.int .u8 0],[D.int .u8 0],[D.int .u8 0],[D.int .u8 0],[D.int .u8 0],[D.int .u8 0],[D.int .u8 0],[D.int .u8 0],[D.int .u8 0],[D.int .u8 0],[D.int .u8 0],[D.int .u8 0],[D.int .u8 0],[D.int .u8 0],[D.int .u8 0],[D.int .u8 0],[D.int .u8 0],[D.int .u8 0],[D.int .u8 0],[D.int .u8 0],[D.int .u8 0],[D.int .u8 0],[D.int .u8 0],[D.int .u8 0],[D.int .u8 0],[D.int .u8 0],[D.int .u8 0],[D.int .u8 0],[D.int .u8 0],[D.int .u8 0],[D.int .u8 0],[D.int .u8 0],[D.int .u8 0],[D.int .u8 0],[D.int .u8 0],[D.int .u8 0],[D.int .u8 0],[D.int .u8 0],[D.int .u8 0],[D.int .u8 0]]=z64:=rfl
def eblank (p:Plan) (table:Int):Plan×Int:=if zM table=false then (p,10) else zbb p table (fun _ _=>(z64,0)) 2 0 p
def ecopy (d:Disk) (p:Plan) (fr tt:Int):Plan×Int:=if zM fr=false∨zM tt=false then (p,10) else zbb p tt (fun q i=>plook d q (96+2*fr+i)) 2 0 p
def elook (d:Disk) (p:Plan) (l1 guest:Int):Ent2×Int:=
 if guest<0∨64≤guest then (⟨0,0⟩,10) else if (eget d p l1 (guest / 16)).2≠0 then (⟨0,0⟩,(eget d p l1 (guest / 16)).2)
 else if (eget d p l1 (guest / 16)).1.kind=2 then (⟨0,0⟩,14) else if (eget d p l1 (guest / 16)).1.kind=0 then (⟨0,0⟩,0)
 else eget d p (eget d p l1 (guest / 16)).1.loc (guest % 16)
theorem zfp {x:Ent2} (h:entOk x=true):(x.kind=0∨x.kind=1∨x.kind=2)∧0≤x.loc∧x.loc<256:=by
 unfold entOk at h
 split at h
 ·rename_i hk
  have:=hostOk_iff.1 h
  omega
 ·simp only [Bool.and_eq_true,Bool.or_eq_true,beq_iff_eq] at h
  omega
theorem zqm {d:Disk} {p:Plan} {t i:Int} (h:(eget d p t i).2=0):entOk (eget d p t i).1=true∧zM t=true∧0≤i∧i<16:=by
 unfold eget at h ⊢
 split at h
 ·cases h
 rename_i h0
 rw [if_neg h0]
 split at h
 ·rename_i h1;exact absurd h h1
 rename_i h1
 rw [if_neg h1]
 unfold entT at h ⊢
 split at h
 ·cases h
 rename_i h2
 rw [if_neg h2]
 simp only [not_or,Bool.not_eq_false] at h2
 refine ⟨h2.1,?_⟩
 simp only [eRef,Bool.or_eq_true,decide_eq_true_eq,not_or,Bool.not_eq_true',Bool.not_eq_false] at h0
 exact ⟨h0.1.1,by omega,by omega⟩
theorem zgt (x:Ent2):(zdg x).length=8:=by rw [zdg,List.length_append,zP];rfl
theorem zsh {d:Disk} {p:Plan} {t i:Int} {x:Ent2} (h:pfit p=true):pfit (eset d p t i x).1=true:=by
 unfold eset
 split
 ·exact h
 split
 ·exact h
 ·exact zfX h
theorem zf2 {p:Plan} {tt:Int} {f:Plan→Int→Txt×Int} (h:pfit p=true):∀ (m:Nat) (i:Int) (q:Plan),pfit q=true→pfit (zbb p tt f m i q).1=true
 |0,_,_,hq=>hq
 |m+1,i,q,hq=>by
  rw [zbb]
  split
  ·exact h
  split
  ·exact h
  ·exact zf2 h m _ _ (zda hq)
theorem DP.eset {d:Disk} {p:Plan} (h:DP d p) (t i:Int) (x:Ent2):DP d (eset d p t i x).1:=⟨h.d,zsh h.p⟩
theorem DP.eblank {d:Disk} {p:Plan} (h:DP d p) (t:Int):DP d (eblank p t).1:=⟨h.d,by unfold Aw.eblank;split;exact h.p;exact zf2 h.p _ _ _ h.p⟩
theorem DP.ecopy {d:Disk} {p:Plan} (h:DP d p) (a b:Int):DP d (ecopy d p a b).1:=⟨h.d,by unfold Aw.ecopy;split;exact h.p;exact zf2 h.p _ _ _ h.p⟩
theorem zjr (k:Int) (_:True):AC 162 [.d (.int .i64 k)] (.d (.bool (zM k))):=by
 refine bod Tryz.func162 Tryz.ntmps162 (fun base=>?_)
 (repeat' (first|(refine hK _ ?_;clear hK K)|refine wa fun K hK=>?_|refine wb ?_|refine wc ?_ ?_|exact we|refine fun (hc:_=(_:Bool))=>?_|clear hK K))
 rfl
@[go_sem] noncomputable def zab:Ent Tryz.prog 162:= .m1 (intT .i64) zjr
theorem zlZ (x:Ent2) (_:True):AC 201 [entA x] (.d (.bool (entOk x))):=by
 refine bod Tryz.func201 Tryz.ntmps201 (fun base=>?_)
 (have tk:=za zab <| zb Tryz.prog;repeat' (first|(refine hK _ ?_;clear hK K)|refine wa fun K hK=>?_|refine wb ?_|refine wc ?_ ?_|exact we|refine fun (hc:_=(_:Bool))=>?_|clear hK K))
 ·have hc:x.kind=1:=by simpa using hc
  rw [entOk,if_pos hc]
 ·have hc:¬x.kind=1:=by simpa using hc
  rw [entOk,if_neg hc]
@[go_sem] noncomputable def zbk:Ent Tryz.prog 201:= .m1 zgs zlZ
theorem zjs (t i:Int) (_:True):AC 199 [.d (.int .i64 t),.d (.int .i64 i)] (.d (.bool (eRef t i))):=by
 refine bod Tryz.func199 Tryz.ntmps199 (fun base=>?_)
 (have tk:=za zab <| zb Tryz.prog;repeat' (first|(refine hK _ ?_;clear hK K)|refine wa fun K hK=>?_|refine wb ?_|refine wc ?_ ?_|exact we|refine fun (hc:_=(_:Bool))=>?_|clear hK K))
 rfl
@[go_sem] noncomputable def zaX:Ent Tryz.prog 199:= .m2 (intT .i64) (intT .i64) zjs
theorem zhy {t i:Int} (h:eRef t i=false):(0≤t∧t<256)∧0≤i∧i<16:=by
 simp only [eRef,Bool.or_eq_false_iff,Bool.not_eq_false',decide_eq_false_iff_not] at h
 exact ⟨hostOk_iff.1 h.1.1,by omega,by omega⟩
theorem zl0 (t i:Int) (hp:0≤t∧t<256∧0≤i∧i<16):AC 200 [.d (.int .i64 t),.d (.int .i64 i)] (.tup [.d (.int .i64 (96+2*t+i / 8)),.d (.int .i64 (i % 8*8))]):=by
 obtain ⟨h0,h1,h2,h3⟩:=hp
 refine bod Tryz.func200 Tryz.ntmps200 (fun base=>?_)
 have hw1:IntKind.i64.wrap (i.tdiv 8)=i / 8:=by rw [Int.tdiv_eq_ediv_of_nonneg h2,zg (by omega) (by omega)]
 have hw2:IntKind.i64.wrap (96+2*t+i / 8)=96+2*t+i / 8:=zg (by omega) (by omega)
 have hw3:i.tmod 8=i % 8:=Int.tmod_eq_emod_of_nonneg h2
 have hw4:IntKind.i64.wrap (i % 8*8)=i % 8*8:=zg (by omega) (by omega)
 (have tk:=za zQ <| zb Tryz.prog;have fx:=(⟨hw1,hw2,hw3,hw4⟩:_∧_∧_∧_);repeat' (first|(refine hK _ ?_;clear hK K)|refine wa fun K hK=>?_|refine wb ?_|refine wc ?_ ?_|exact we|clear hK K))
@[go_sem] noncomputable def zbl:Ent Tryz.prog 200:= .m2 (intT .i64) (intT .i64) zl0
theorem zl1 (x:Ent2) (h:entOk x=true):AC 202 [entA x] (.d (.str (zdg x))):=by
 refine fbod Tryz.func202 Tryz.ntmps202 (fun base=>?_)
 obtain ⟨hk,ha0,ha1⟩:=zfp h
 have hw1:IntKind.u8.wrap x.kind=((UInt8.ofNat x.kind.toNat).toNat:Int):=by
  rw [← u8_of,show (x.kind.toNat:Int)=x.kind by omega]
 have hw2:IntKind.u64.wrap x.loc=x.loc:=zad (by omega) (by omega)
 have hl:=zP x.loc.toNat 4
 have hbo:bytesOf [[D.int .u8 ((UInt8.ofNat x.kind.toNat).toNat:Int)],[D.int .u8 0],[D.int .u8 0],[D.int .u8 0]]= [UInt8.ofNat x.kind.toNat,0,0,0]:=by rcases hk with hh|hh|hh<;>(rw [hh];rfl)
 (have tk:=za zar <| zb Tryz.prog;have fx:=(⟨hw1,hw2,@ziA,hl,hbo⟩:_∧_∧_∧_∧_);repeat' (first|(refine hK _ ?_;clear hK K)|refine va fun K hK=>?_|refine vb ?_|refine wc ?_ ?_|exact we|clear hK K))
 ·rfl
 ·rfl
@[go_sem] noncomputable def zbm:Ent Tryz.prog 202:= .m1 zgs zl1
theorem zqn (s:Txt):0≤(entOf s).kind∧(entOf s).kind≤255∧0≤(entOf s).loc∧(entOf s).loc≤4294967295:=by
 have h1:=zbw (l:=(s.drop 4).take 4) (i:=4) (by rw [List.length_take];omega)
 have h2:=(s.getD 0 0).toNat_lt
 simp only [entOf]
 omega
theorem zqo (d:Disk) (p:Plan) (t i:Int) (h:DP d p):AC 128 [diskA d,planA p,.d (.int .i64 t),.d (.int .i64 i)] (.tup [entA (eget d p t i).1,.d (.int .i64 (eget d p t i).2)]):=by
 refine fbod Tryz.func128 Tryz.ntmps128 (fun base=>?_)
 have h1:=h.dok
 have h2:=h.pok
 have h3:=h.plen
 by_cases hr:eRef t i=true
 ·(have tk:=za zaX <| za zbl <| za zx <| za zS <| za zbk <| za zbm <| za zao <| zb Tryz.prog;have fx:=hr;(repeat' (first|(refine hK _ ?_;clear hK K)|refine va fun K hK=>?_|refine vb ?_|refine wc ?_ ?_|exact we|refine fun (hc:_=(_:Bool))=>?_|clear hK K));all_goals clear fx)
  rw [eget,if_pos hr]
 have hr:eRef t i=false:=by simpa using hr
 obtain ⟨⟨ht0,ht1⟩,hi0,hi1⟩:=zhy hr
 obtain ⟨A,hA⟩:∃A,A=96+2*t+i / 8:=⟨_,rfl⟩
 have hrg0:eget d p t i=if (plook d p A).2≠0 then (⟨0,0⟩,(plook d p A).2) else entT (((plook d p A).1.take (i % 8*8+8).toNat).drop (i % 8*8).toNat):=by
  rw [eget,if_neg (by rw [hr];exact Bool.false_ne_true),hA]
 by_cases he:(plook d p A).2=0
 ·have hb:((plook d p A).2 !=0)=false:=by simpa using he
  have h64:=zcA h he
  rw [if_neg (by simpa using he)] at hrg0
  have hw:IntKind.i64.wrap (i % 8*8+8)=i % 8*8+8:=zg (by omega) (by omega)
  obtain ⟨S,hS⟩:∃S,S=((plook d p A).1.take (i % 8*8+8).toNat).drop (i % 8*8).toNat:=⟨_,rfl⟩
  rw [← hS] at hrg0
  have hSl:S.length=8:=by rw [hS,List.length_drop,List.length_take];omega
  have hrr:=zqn S
  have htk:List.take S.length S=S:=List.take_length
  have ht4:=zcs (s:=S.drop 4) (z:=4) 4 rfl (by omega) (by omega) (by rw [List.length_drop];omega)
  have hwk:IntKind.i64.wrap (entOf S).kind=(entOf S).kind:=zg (by omega) (by omega)
  have hwl:IntKind.i64.wrap (entOf S).loc=(entOf S).loc:=zg (by omega) (by omega)
  simp only [entOf] at hwk hwl hrr
  have hL2:(List.drop 4 S).length≤8:=by rw [List.length_drop];omega
  (have tk:=za zaX <| za zbl <| za zx <| za zS <| za zbk <| za zbm <| za zao <| zb Tryz.prog;have fx:=(⟨hr,hA.symm,hb,hw,hS.symm,htk,ht4,hwk,hwl⟩:_∧_∧_∧_∧_∧_∧_∧_∧_);(repeat' (first|(refine hK _ ?_;clear hK K)|refine va fun K hK=>?_|refine vb ?_|refine wc ?_ ?_|exact we|refine fun (hc:_=(_:Bool))=>?_|clear hK K));all_goals clear fx)
  all_goals (rw [hrg0,entT];clear ht4 hwk hwl htk;simp_all [entOf];done)
 ·have hb:((plook d p A).2 !=0)=true:=by simpa using he
  rw [if_pos he] at hrg0
  (have tk:=za zaX <| za zbl <| za zx <| za zS <| za zbk <| za zbm <| za zao <| zb Tryz.prog;have fx:=(⟨hr,hA.symm,hb⟩:_∧_∧_);repeat' (first|(refine hK _ ?_;clear hK K)|refine va fun K hK=>?_|refine vb ?_|refine wc ?_ ?_|exact we|refine fun (hc:_=(_:Bool))=>?_|clear hK K))
  rw [hrg0]
@[go_sem] noncomputable def zaJ:Ent Tryz.prog 128:= .m4 zq zw (intT .i64) (intT .i64) zqo
theorem zqp (d:Disk) (p:Plan) (t i:Int) (x:Ent2) (h:DP d p):AC 188 [diskA d,planA p,.d (.int .i64 t),.d (.int .i64 i),entA x] (.tup [planA (eset d p t i x).1,.d (.int .i64 (eset d p t i x).2)]):=by
 refine fbod Tryz.func188 Tryz.ntmps188 (fun base=>?_)
 have h1:=h.dok
 have h2:=h.puts
 have h3:=h.p
 by_cases hr:eRef t i=true
 ·(have tk:=za zaX <| za zbl <| za zx <| za zS <| za zbk <| za zbm <| za zao <| zb Tryz.prog;have fx:=hr;repeat' (first|(refine hK _ ?_;clear hK K)|refine va fun K hK=>?_|refine vb ?_|refine wc ?_ ?_|exact we|refine fun (hc:_=(_:Bool))=>?_|clear hK K))
  rw [eset,if_pos hr]
 have hr:eRef t i=false:=by simpa using hr
 obtain ⟨⟨ht0,ht1⟩,hi0,hi1⟩:=zhy hr
 by_cases hx:entOk x=true
 ·have hl:=zgt x
  (have tk:=za zaX <| za zbl <| za zx <| za zS <| za zbk <| za zbm <| za zao <| zb Tryz.prog;have fx:=(⟨hr,hx,hl⟩:_∧_∧_);repeat' (first|(refine hK _ ?_;clear hK K)|refine va fun K hK=>?_|refine vb ?_|refine wc ?_ ?_|exact we|refine fun (hc:_=(_:Bool))=>?_|clear hK K))
  rw [eset,if_neg (by rw [hr];exact Bool.false_ne_true),if_neg (by rw [hx];exact fun h=>by cases h)]
 ·have hx:entOk x=false:=by simpa using hx
  (have tk:=za zaX <| za zbl <| za zx <| za zS <| za zbk <| za zbm <| za zao <| zb Tryz.prog;have fx:=(⟨hr,hx⟩:_∧_);repeat' (first|(refine hK _ ?_;clear hK K)|refine va fun K hK=>?_|refine vb ?_|refine wc ?_ ?_|exact we|refine fun (hc:_=(_:Bool))=>?_|clear hK K))
  rw [eset,if_neg (by rw [hr];exact Bool.false_ne_true),if_pos hx]
@[go_sem] noncomputable def zdU:Ent Tryz.prog 188:= .m5 zq zw (intT .i64) (intT .i64) zgs zqp
theorem zeE (p:Plan) (tt:Int) (f:Plan→Int→Txt×Int) (i:Nat) (q:Plan) (hi:i<2):zbb p tt f (2 - i) i q=if (f q i).2≠0 then (p,(f q i).2) else if (pset q (96+2*tt+i) (f q i).1).2≠0 then (p,(pset q (96+2*tt+i) (f q i).1).2)
  else zbb p tt f (2 - (i+1)) (i+1:Nat) (pset q (96+2*tt+i) (f q i).1).1:=by
 rw [show 2 - i=(2 - (i+1))+1 by omega,zbb]
 rfl
theorem PlanOk.of {p:Plan} (h:pfit p=true):PlanOk p:=by
 obtain ⟨hl,h24,_⟩:=zaz h
 exact ⟨by omega,by omega⟩
theorem zl2 (p:Plan) (t:Int) (hp:pfit p=true):AC 287 [planA p,.d (.int .i64 t)] (.tup [planA (eblank p t).1,.d (.int .i64 (eblank p t).2)]):=by
 refine fbod Tryz.func287 Tryz.ntmps287 (fun base=>?_)
 by_cases hk:zM t=true
 ·obtain ⟨ht0,ht1⟩:=hostOk_iff.1 hk
  have hbl:eblank p t=zbb p t (fun _ _=>(z64,0)) 2 0 p:=by rw [eblank,if_neg (by rw [hk];exact fun h=>by cases h)]
  obtain ⟨f,hf⟩:∃f:Plan→Int→Txt×Int,f=fun _ _=>(z64,0):=⟨_,rfl⟩
  rw [← hf] at hbl
  (have tk:=za zab <| za zQ <| za zaN <| za zx <| zb Tryz.prog;have fx:=hk;repeat' (first|(refine hK _ ?_;clear hK K)|refine va fun K hK=>?_|refine vb ?_|refine wc ?_ ?_|exact we|refine fun (hc:_=(_:Bool))=>?_|clear hK K))
  refine zo (fun q: { q:Nat×Plan // q.1≤2∧pfit q.2=true∧eblank p t=zbb p t f (2 - q.1) q.1 q.2 } =>⟨[(1,true,.d (.int .i64 t)),(2,true,.vp 0 0),(4,true,.vp 1 0),(6,true,.vp 2 0),(7,true,.d (.int .i64 q.1.1))],[(2,(.var [.d (.sl 1 (q.1.2.targets.map intD)),.d (.sl 1 (q.1.2.texts.map strD))])),(1,.var [.nils 1,.nils 1]),(0,(.var [.d (.sl 1 (p.targets.map intD)),.d (.sl 1 (p.texts.map strD))]))],some []⟩) (fun q=>2 - q.1.1) ⟨(0,p),Nat.zero_le 2,hp,hbl⟩ le1 (fun q=>?_)
  obtain ⟨⟨i,q⟩,hi,hq,hf2⟩:=q
  simp only at hi hq hf2 ⊢
  have hqo:=PlanOk.of hq
  obtain ⟨hql,hq24,_⟩:=zaz hq
  rcases Nat.lt_or_ge i 2 with hlt|hge
  ·have hcmp:decide ((i:Int)<2)=true:=decide_eq_true (by omega)
   have hwi:=zp (i:=i) (by omega)
   have hw1:IntKind.i64.wrap (96+2*t+(i:Int))=96+2*t+i:=zg (by omega) (by omega)
   rw [zeE p t f i q hlt] at hf2
   have hf0:f q i=(z64,0):=by rw [hf]
   simp only [hf0] at hf2
   rw [if_neg (show ¬(0:Int)≠0 by decide)] at hf2
   (have tk:=za zab <| za zQ <| za zaN <| za zx <| zb Tryz.prog;have fx:=(⟨hcmp,hw1,@zsg⟩:_∧_∧_);repeat' (first|(refine hK _ ?_;clear hK K)|refine va fun K hK=>?_|refine vb ?_|refine wc ?_ ?_|exact we|refine fun (hc:_=(_:Bool))=>?_|clear hK K))
   ·rfl
   ·have hc:(pset q (96+2*t+i) z64).2≠0:=by simpa using hc
    rw [hf2,if_pos hc]
   ·have hc:¬(pset q (96+2*t+i) z64).2≠0:=by simpa using hc
    rw [if_neg hc] at hf2
    exact ⟨⟨(i+1,(pset q (96+2*t+i) z64).1),by omega,zda hq,hf2⟩,lew,by simp;omega⟩
  ·have hcmp:decide ((i:Int)<2)=false:=decide_eq_false (by omega)
   (have tk:=za zab <| za zQ <| za zaN <| za zx <| zb Tryz.prog;have fx:=hcmp;repeat' (first|(refine hK _ ?_;clear hK K)|refine va fun K hK=>?_|refine vb ?_|refine wc ?_ ?_|exact we|refine fun (hc:_=(_:Bool))=>?_|clear hK K))
   rw [hf2,show 2 - i=0 by omega]
   rfl
 ·have hk:zM t=false:=by simpa using hk
  (have tk:=za zab <| za zQ <| za zaN <| za zx <| zb Tryz.prog;have fx:=hk;repeat' (first|(refine hK _ ?_;clear hK K)|refine va fun K hK=>?_|refine vb ?_|refine wc ?_ ?_|exact we|refine fun (hc:_=(_:Bool))=>?_|clear hK K))
  rw [eblank,if_pos hk]
@[go_sem] noncomputable def zfq:Ent Tryz.prog 287:= .m2 zw (intT .i64) zl2
theorem zoo (d:Disk) (p:Plan) (a t:Int) (h:DP d p):AC 85 [diskA d,planA p,.d (.int .i64 a),.d (.int .i64 t)] (.tup [planA (ecopy d p a t).1,.d (.int .i64 (ecopy d p a t).2)]):=by
 refine fbod Tryz.func85 Tryz.ntmps85 (fun base=>?_)
 have hp:=h.p
 have hdo:=h.dok
 by_cases hk:zM a=false∨zM t=false
 ·have hdec:(!zM a|| !zM t)=true:=by simpa using hk
  (have tk:=za zab <| za zQ <| za zaN <| za zx <| zb Tryz.prog;have fx:=hdec;repeat' (first|(refine hK _ ?_;clear hK K)|refine va fun K hK=>?_|refine vb ?_|refine wc ?_ ?_|exact we|refine fun (hc:_=(_:Bool))=>?_|clear hK K))
  rw [ecopy,if_pos hk]
 ·have hdec:(!zM a|| !zM t)=false:=by simpa using hk
  simp only [not_or,Bool.not_eq_false] at hk
  obtain ⟨ha0,ha1⟩:=hostOk_iff.1 hk.1
  obtain ⟨ht0,ht1⟩:=hostOk_iff.1 hk.2
  have hcp:ecopy d p a t=zbb p t (fun q i=>plook d q (96+2*a+i)) 2 0 p:=by rw [ecopy,if_neg];simp [hk]
  obtain ⟨f,hf⟩:∃f:Plan→Int→Txt×Int,f=fun q i=>plook d q (96+2*a+i):=⟨_,rfl⟩
  rw [← hf] at hcp
  (have tk:=za zab <| za zQ <| za zaN <| za zx <| zb Tryz.prog;have fx:=hdec;repeat' (first|(refine hK _ ?_;clear hK K)|refine va fun K hK=>?_|refine vb ?_|refine wc ?_ ?_|exact we|refine fun (hc:_=(_:Bool))=>?_|clear hK K))
  refine zo (fun q: { q:Nat×Plan // q.1≤2∧pfit q.2=true∧ecopy d p a t=zbb p t f (2 - q.1) q.1 q.2 } =>⟨[(2,true,.d (.int .i64 a)),(3,true,.d (.int .i64 t)),(4,true,.vp 0 0),(5,true,.vp 1 0),(8,true,.vp 2 0),(10,true,.vp 3 0),(11,true,.d (.int .i64 q.1.1))],[(3,(.var [.d (.sl 1 (q.1.2.targets.map intD)),.d (.sl 1 (q.1.2.texts.map strD))])),(2,.var [.nils 1,.nils 1]),(1,(.var [.d (.sl 1 (p.targets.map intD)),.d (.sl 1 (p.texts.map strD))])),(0,(.var [.d (.str d.data),.d (.sl 2 (d.cache.map putD)),.d (.int .i64 d.fuse),.d (.bool d.off),.d (.sl 1 (d.bad.map intD))]))],some []⟩) (fun q=>2 - q.1.1) ⟨(0,p),Nat.zero_le 2,hp,hcp⟩ le1 (fun q=>?_)
  obtain ⟨⟨i,q⟩,hi,hq,hf2⟩:=q
  simp only at hi hq hf2 ⊢
  have hqo:=PlanOk.of hq
  obtain ⟨hql,hq24,_⟩:=zaz hq
  rcases Nat.lt_or_ge i 2 with hlt|hge
  ·have hcmp:decide ((i:Int)<2)=true:=decide_eq_true (by omega)
   have hwi:=zp (i:=i) (by omega)
   have hw1:IntKind.i64.wrap (96+2*t+(i:Int))=96+2*t+i:=zg (by omega) (by omega)
   have hw2:IntKind.i64.wrap (96+2*a+(i:Int))=96+2*a+i:=zg (by omega) (by omega)
   rw [zeE p t f i q hlt] at hf2
   have hf0:f q i=plook d q (96+2*a+i):=by rw [hf]
   simp only [hf0] at hf2
   (have tk:=za zab <| za zQ <| za zaN <| za zx <| zb Tryz.prog;have fx:=(⟨hcmp,hw1,hw2⟩:_∧_∧_);repeat' (first|(refine hK _ ?_;clear hK K)|refine va fun K hK=>?_|refine vb ?_|refine wc ?_ ?_|exact we|refine fun (hc:_=(_:Bool))=>?_|clear hK K))
   ·have hc:(plook d q (96+2*a+i)).2≠0:=by simpa using hc
    rw [hf2,if_pos hc]
   ·rename_i c0
    have c0:¬(plook d q (96+2*a+i)).2≠0:=by simpa using c0
    have hc:(pset q (96+2*t+i) (plook d q (96+2*a+i)).1).2≠0:=by simpa using hc
    rw [hf2,if_neg c0,if_pos hc]
   ·rename_i c0
    have c0:¬(plook d q (96+2*a+i)).2≠0:=by simpa using c0
    have hc:¬(pset q (96+2*t+i) (plook d q (96+2*a+i)).1).2≠0:=by simpa using hc
    rw [if_neg c0,if_neg hc] at hf2
    exact ⟨⟨(i+1,(pset q (96+2*t+i) (plook d q (96+2*a+i)).1).1),by omega,zda hq,hf2⟩,lew,by simp;omega⟩
  ·have hcmp:decide ((i:Int)<2)=false:=decide_eq_false (by omega)
   (have tk:=za zab <| za zQ <| za zaN <| za zx <| zb Tryz.prog;have fx:=hcmp;repeat' (first|(refine hK _ ?_;clear hK K)|refine va fun K hK=>?_|refine vb ?_|refine wc ?_ ?_|exact we|refine fun (hc:_=(_:Bool))=>?_|clear hK K))
   rw [hf2,show 2 - i=0 by omega]
   rfl
@[go_sem] noncomputable def zG:Ent Tryz.prog 85:= .m4 zq zw (intT .i64) (intT .i64) zoo
theorem zop (d:Disk) (p:Plan) (l1 g:Int) (h:DP d p):AC 65 [diskA d,planA p,.d (.int .i64 l1),.d (.int .i64 g)] (.tup [entA (elook d p l1 g).1,.d (.int .i64 (elook d p l1 g).2)]):=by
 refine fbod Tryz.func65 Tryz.ntmps65 (fun base=>?_)
 by_cases hg:g<0∨64≤g
 ·have hdec:(decide (g<0)||decide (64≤g))=true:=by simpa using hg
  (have tk:=za zaJ <| zb Tryz.prog;have fx:=hdec;(repeat' (first|(refine hK _ ?_;clear hK K)|refine va fun K hK=>?_|refine vb ?_|refine wc ?_ ?_|exact we|refine fun (hc:_=(_:Bool))=>?_|clear hK K));all_goals clear fx)
  rw [elook,if_pos hg]
 ·have hdec:(decide (g<0)||decide (64≤g))=false:=by simpa using hg
  have hw1:IntKind.i64.wrap (g.tdiv 16)=g / 16:=by rw [Int.tdiv_eq_ediv_of_nonneg (by omega),zg (by omega) (by omega)]
  have hw2:g.tmod 16=g % 16:=Int.tmod_eq_emod_of_nonneg (by omega)
  (have tk:=za zaJ <| zb Tryz.prog;have fx:=(⟨hdec,hw1,hw2⟩:_∧_∧_);(repeat' (first|(refine hK _ ?_;clear hK K)|refine va fun K hK=>?_|refine vb ?_|refine wc ?_ ?_|exact we|refine fun (hc:_=(_:Bool))=>?_|clear hK K));all_goals clear fx)
  all_goals (rw [elook,if_neg hg];simp_all;done)
@[go_sem] noncomputable def zah:Ent Tryz.prog 65:= .m4 zq zw (intT .i64) (intT .i64) zop
open Go Go.Proofs
theorem zt1 (k:Int) (_:True):AC 218 [.d (.int .i64 k)] (.d (.bool (!zM k))):=by
 refine bod Tryz.func218 Tryz.ntmps218 (fun base=>?_)
 (have fx:= @zbJ;repeat' (first|(refine hK _ ?_;clear hK K)|refine wa fun K hK=>?_|refine wb ?_|refine wc ?_ ?_|exact we|refine fun (hc:_=(_:Bool))=>?_|clear hK K))
@[go_sem] noncomputable def zcl:Ent Tryz.prog 218:= .m1 (intT .i64) zt1
theorem zqC (x:Ent2) (_:True):AC 272 [entA x] (.d (.bool (entOk x))):=by
 refine bod Tryz.func272 Tryz.ntmps272 (fun base=>?_)
 (have tk:=za zcl <| za zbC <| zb Tryz.prog;repeat' (first|(refine hK _ ?_;clear hK K)|refine wa fun K hK=>?_|refine wb ?_|refine wc ?_ ?_|exact we|refine fun (hc:_=(_:Bool))=>?_|clear hK K))
 all_goals simp_all [entOk]
@[go_sem] noncomputable def zb8:Ent Tryz.prog 272:= .m1 zgs zqC
theorem zqD (t i:Int) (_:True):AC 271 [.d (.int .i64 t),.d (.int .i64 i)] (.tup [.d (.int .i64 (if eRef t i then 0 else 96+2*t+i / 8)),.d (.int .i64 (if eRef t i then 0 else i % 8*8)),.d (.int .i64 (if eRef t i then 10 else 0))]):=by
 refine bod Tryz.func271 Tryz.ntmps271 (fun base=>?_)
 cases hr:eRef t i with
 |true=>
  have hdec:(!zM t||decide (i<0)||decide (16≤i))=true:=hr
  (have tk:=za zcl <| za zbC <| zb Tryz.prog;have fx:=hdec;repeat' (first|(refine hK _ ?_;clear hK K)|refine wa fun K hK=>?_|refine wb ?_|refine wc ?_ ?_|exact we|refine fun (hc:_=(_:Bool))=>?_|clear hK K))
 |false=>
  have hdec:(!zM t||decide (i<0)||decide (16≤i))=false:=hr
  obtain ⟨⟨ht0,ht1⟩,hi0,hi1⟩:=zhy hr
  have hw0:IntKind.i64.wrap (i*8)=i*8:=zg (by omega) (by omega)
  have hw1:IntKind.i64.wrap ((i*8).tdiv 64)=i / 8:=by rw [Int.tdiv_eq_ediv_of_nonneg (by omega),zg (by omega) (by omega)];omega
  have hw2:IntKind.i64.wrap (96+2*t+i / 8)=96+2*t+i / 8:=zg (by omega) (by omega)
  have hw3:(i*8).tmod 64=i % 8*8:=by rw [Int.tmod_eq_emod_of_nonneg (by omega)];omega
  (have tk:=za zcl <| za zbC <| zb Tryz.prog;have fx:=(⟨hdec,hw0,hw1,hw2,hw3⟩:_∧_∧_∧_∧_);repeat' (first|(refine hK _ ?_;clear hK K)|refine wa fun K hK=>?_|refine wb ?_|refine wc ?_ ?_|exact we|refine fun (hc:_=(_:Bool))=>?_|clear hK K))
@[go_sem] noncomputable def zb9:Ent Tryz.prog 271:= .m2 (intT .i64) (intT .i64) zqD
theorem zkM:∀k<3,∀l<256,putN (k*72057594037927936+l) 8= [UInt8.ofNat k,0,0,0]++putN l 4:=by decide+kernel
theorem zqE:∀k<3,∀l<256,ibits .or .u64 (ishl .u64 ((k:Nat):Int) 56) ((l:Nat):Int)=((k*72057594037927936+l:Nat):Int):=by decide+kernel
theorem zoB (x:Ent2) (h:entOk x=true):AC 300 [entA x] (.d (.str (zdg x))):=by
 refine fbod Tryz.func300 Tryz.ntmps300 (fun base=>?_)
 obtain ⟨hk,ha0,ha1⟩:=zfp h
 obtain ⟨kind,loc⟩:=x
 simp only at hk ha0 ha1
 obtain ⟨k,rfl⟩:∃k:Nat,kind=k:=⟨kind.toNat,by omega⟩
 obtain ⟨l,rfl⟩:∃l:Nat,loc=l:=⟨loc.toNat,by omega⟩
 have h1:=zkM k (by omega) l (by omega)
 have h2:=zqE k (by omega) l (by omega)
 have hw1:IntKind.u64.wrap (k:Int)=k:=zad (by omega) (by omega)
 have hw2:IntKind.u64.wrap (l:Int)=l:=zad (by omega) (by omega)
 (have tk:=za zce <| zb Tryz.prog;have fx:=(⟨hw1,hw2,h2,@zu0,@Int.toNat_natCast,h1⟩:_∧_∧_∧_∧_∧_);repeat' (first|(refine hK _ ?_;clear hK K)|refine wa fun K hK=>?_|refine wb ?_|refine wc ?_ ?_|exact we|clear hK K))
 rfl
@[go_sem] noncomputable def zbN:Ent Tryz.prog 300:= .m1 zgs zoB
theorem zsu (n:Nat):ishr .u64 (n:Int) 56=((n / 72057594037927936:Nat):Int):=by
 unfold ishr
 rw [show min ((56:Int).toNat) IntKind.u64.bits=56 from rfl]
 rw [Int.fdiv_eq_ediv_of_nonneg _ (by decide)]
 norm_cast
theorem zsv (n:Nat) (hn:n<18446744073709551616):ibits .and .u64 (n:Int) 72057594037927935=((n % 72057594037927936:Nat):Int):=by
 show IntKind.u64.wrap (((BitVec.ofInt 64 (n:Int)&&& BitVec.ofInt 64 72057594037927935).toNat:Nat):Int)=_
 have h2:BitVec.ofInt 64 72057594037927935=BitVec.ofNat 64 72057594037927935:=by decide
 rw [h2,BitVec.ofInt_natCast,BitVec.toNat_and,BitVec.toNat_ofNat,BitVec.toNat_ofNat]
 rw [Nat.mod_eq_of_lt (by omega),show 72057594037927935 % 2 ^ 64=2 ^ 56 - 1 by decide,Nat.and_two_pow_sub_one_eq_mod,zad (by omega) (by omega)]
theorem zml (e f g h:UInt8):putN (takeN [e,f,g,h]) 4= [e,f,g,h]:=by
 simp only [takeN,putN,List.foldl,List.nil_append,List.cons_append]
 have:=e.toNat_lt;have:=f.toNat_lt;have:=g.toNat_lt;have:=h.toNat_lt
 have key:∀ (n:Nat) (c:UInt8),n % 256=c.toNat→UInt8.ofNat n=c:=fun n c hh=>by
  apply UInt8.toNat_inj.1
  rw [UInt8.toNat_ofNat']
  simpa using hh
 rw [key _ e (by omega),key _ f (by omega),key _ g (by omega),key _ h (by omega)]
theorem zsw (s:Txt) (hs:s.length=8):entT s=if entOk ⟨((takeN s / 72057594037927936:Nat):Int),((takeN s % 72057594037927936:Nat):Int)⟩=true then (⟨((takeN s / 72057594037927936:Nat):Int),((takeN s % 72057594037927936:Nat):Int)⟩,0) else (⟨0,0⟩,14):=by
 match s,hs with
 | [a,b,c,d,e,f,g,h],_=>
  obtain ⟨L,hL⟩:∃L,L=takeN [e,f,g,h]:=⟨_,rfl⟩
  have hL4:L<4294967296:=by
   have h1:=zbw (l:= [e,f,g,h]) (i:=4) (by simp)
   have h2:256 ^ 4=4294967296:=by decide
   omega
  have hpt:putN L 4= [e,f,g,h]:=by rw [hL];exact zml e f g h
  have ha:=a.toNat_lt;have hb:=b.toNat_lt;have hc:=c.toNat_lt;have hd:=d.toNat_lt
  have hn:takeN [a,b,c,d,e,f,g,h]=((a.toNat*256+b.toNat)*256+c.toNat)*256*4294967296+d.toNat*4294967296+L:=by
   rw [hL]
   simp only [takeN,List.foldl]
   omega
  rw [hn]
  have h1:(((a.toNat*256+b.toNat)*256+c.toNat)*256*4294967296+d.toNat*4294967296+L) / 72057594037927936=a.toNat:=by omega
  have h2:(((a.toNat*256+b.toNat)*256+c.toNat)*256*4294967296+d.toNat*4294967296+L) % 72057594037927936=(b.toNat*256+c.toNat)*256*4294967296+d.toNat*4294967296+L:=by omega
  rw [h1,h2]
  have he:entOf [a,b,c,d,e,f,g,h]=⟨(a.toNat:Int),(L:Int)⟩:=by rw [hL];rfl
  have hby:zdg ⟨(a.toNat:Int),(L:Int)⟩= [a,0,0,0,e,f,g,h]:=by
   rw [zdg]
   simp only [Int.toNat_natCast,hpt]
   rw [show UInt8.ofNat a.toNat=a by simp]
   rfl
  rw [entT,he,hby]
  by_cases hz:b=0∧c=0∧d=0
  ·obtain ⟨rfl,rfl,rfl⟩:=hz
   simp only [UInt8.toNat_zero,Nat.zero_mul,Nat.zero_add]
   cases hk:entOk ⟨(a.toNat:Int),(L:Int)⟩<;>simp
  ·have hne:([a,0,0,0,e,f,g,h]:Txt)≠ [a,b,c,d,e,f,g,h]:=by
    intro hh
    simp only [List.cons.injEq,true_and] at hh
    exact hz ⟨hh.1.symm,hh.2.1.symm,hh.2.2.1.symm⟩
   rw [if_pos (.inr hne),if_neg]
   intro hk
   obtain ⟨_,_,hlt⟩:=zfp hk
   simp only at hlt
   apply hz
   have hb0:b.toNat=0∧c.toNat=0∧d.toNat=0:=by omega
   exact ⟨UInt8.toNat_inj.1 hb0.1,UInt8.toNat_inj.1 hb0.2.1,UInt8.toNat_inj.1 hb0.2.2⟩
open Go Go.Proofs
theorem zt2 (d:Disk) (p:Plan) (t i:Int) (h:DP d p):AC 229 [diskA d,planA p,.d (.int .i64 t),.d (.int .i64 i)] (.tup [entA (eget d p t i).1,.d (.int .i64 (eget d p t i).2)]):=by
 refine fbod Tryz.func229 Tryz.ntmps229 (fun base=>?_)
 have h1:=h.dok
 have h2:=h.pok
 have h3:=h.plen
 by_cases hr:eRef t i=true
 ·(have tk:=za zb9 <| za zW <| za zbt <| za zb8 <| za zbN <| za zaC <| zb Tryz.prog);repeat' (first|((first|(refine sa ?_;intro K hK)|refine sb ?_);simp only [go_sem,aeq,aeq.aeqF,simprocAttr,hr,if_true,Tryz.results229])|refine zj (fun K hK=>?_)|refine sc ?_|refine zi rfl (fun hc=>?_) (fun hc=>?_)|(refine hK _ ?_;clear hK K)|with_reducible refine And.intro ?_ ?_|omega|assumption|clear hK K)
  rw [eget,if_pos hr]
 have hr:eRef t i=false:=by simpa using hr
 have hif:∀ (a b:Int),(if eRef t i=true then a else b)=b:=fun a b=>by rw [if_neg (by rw [hr];exact Bool.false_ne_true)]
 obtain ⟨⟨ht0,ht1⟩,hi0,hi1⟩:=zhy hr
 obtain ⟨A,hA⟩:∃A,A=96+2*t+i / 8:=⟨_,rfl⟩
 have hrg0:eget d p t i=if (plook d p A).2≠0 then (⟨0,0⟩,(plook d p A).2) else entT (((plook d p A).1.take (i % 8*8+8).toNat).drop (i % 8*8).toNat):=by
  rw [eget,if_neg (by rw [hr];exact Bool.false_ne_true),hA]
 by_cases he:(plook d p A).2=0
 ·have hb:((plook d p A).2 !=0)=false:=by simpa using he
  have h64:=zcA h he
  rw [if_neg (by simpa using he)] at hrg0
  obtain ⟨S,hS⟩:∃S,S=((plook d p A).1.drop (i % 8*8).toNat).take 8:=⟨_,rfl⟩
  have hS2:((plook d p A).1.take (i % 8*8+8).toNat).drop (i % 8*8).toNat=S:=by
   rw [List.drop_take,hS,show (i % 8*8+8).toNat - (i % 8*8).toNat=8 by omega]
  rw [hS2] at hrg0
  have hSl:S.length=8:=by rw [hS,List.length_take,List.length_drop];omega
  rw [zsw S hSl] at hrg0
  have hnl:=zbw (l:=S) (i:=8) (by omega)
  have ht8:=zcs (s:=(plook d p A).1.drop (i % 8*8).toNat) (z:=8) 8 rfl (by omega) (by omega) (by rw [List.length_drop];omega)
  rw [← hS] at ht8
  obtain ⟨n,hn⟩:∃n,n=takeN S:=⟨_,rfl⟩
  rw [← hn] at ht8 hrg0 hnl
  have hsh:=zsu n
  have had:=zsv n (by omega)
  have hw1:IntKind.i64.wrap ((n / 72057594037927936:Nat):Int)=((n / 72057594037927936:Nat):Int):=zg (by omega) (by omega)
  have hw2:IntKind.i64.wrap ((n % 72057594037927936:Nat):Int)=((n % 72057594037927936:Nat):Int):=zg (by omega) (by omega)
  have hld:((plook d p A).1.drop (i % 8*8).toNat).length≤64:=by rw [List.length_drop];omega
  have htk:List.take (plook d p A).1.length (plook d p A).1=(plook d p A).1:=List.take_length
  obtain ⟨x,hx⟩:∃x:Ent2,x=⟨((n / 72057594037927936:Nat):Int),((n % 72057594037927936:Nat):Int)⟩:=⟨_,rfl⟩
  rw [← hx] at hrg0
  have hx1:((n / 72057594037927936:Nat):Int)=x.kind:=by rw [hx]
  have hx2:((n % 72057594037927936:Nat):Int)=x.loc:=by rw [hx]
  rw [hx1] at hw1 hsh
  rw [hx2] at hw2 had
  (have tk:=za zb9 <| za zW <| za zbt <| za zb8 <| za zbN <| za zaC <| zb Tryz.prog;have fx:=(⟨hif,hA.symm,hb,ht8,htk,hsh,had,hw1,hw2⟩:_∧_∧_∧_∧_∧_∧_∧_∧_);(repeat' (first|(refine hK _ ?_;clear hK K)|refine wa fun K hK=>?_|refine wb ?_|refine wc ?_ ?_|exact we|refine fun (hc:_=(_:Bool))=>?_|clear hK K));all_goals clear fx)
  all_goals (rw [hrg0];simp_all;done)
 ·have hb:((plook d p A).2 !=0)=true:=by simpa using he
  rw [if_pos he] at hrg0
  (have tk:=za zb9 <| za zW <| za zbt <| za zb8 <| za zbN <| za zaC <| zb Tryz.prog;have fx:=(⟨hif,hA.symm,hb⟩:_∧_∧_);repeat' (first|(refine hK _ ?_;clear hK K)|refine wa fun K hK=>?_|refine wb ?_|refine wc ?_ ?_|exact we|refine fun (hc:_=(_:Bool))=>?_|clear hK K))
  rw [hrg0]
@[go_sem] noncomputable def zfu:Ent Tryz.prog 229:= .m4 zq zw (intT .i64) (intT .i64) zt2
theorem zt3 (d:Disk) (p:Plan) (t i:Int) (x:Ent2) (h:DP d p):AC 284 [diskA d,planA p,.d (.int .i64 t),.d (.int .i64 i),entA x] (.tup [planA (eset d p t i x).1,.d (.int .i64 (eset d p t i x).2)]):=by
 refine fbod Tryz.func284 Tryz.ntmps284 (fun base=>?_)
 have h1:=h.dok
 have h2:=h.puts
 have h3:=h.p
 by_cases hr:eRef t i=true
 ·(have tk:=za zb9 <| za zW <| za zbt <| za zb8 <| za zbN <| za zaC <| zb Tryz.prog);repeat' (first|((first|(refine sa ?_;intro K hK)|refine sb ?_);simp only [go_sem,aeq,aeq.aeqF,simprocAttr,hr,if_true,Tryz.results284])|refine zj (fun K hK=>?_)|refine sc ?_|refine zi rfl (fun hc=>?_) (fun hc=>?_)|(refine hK _ ?_;clear hK K)|with_reducible refine And.intro ?_ ?_|(refine (show zV _ _=true from ?_);kernel_rfl)|omega|assumption|clear hK K)
  rw [eset,if_pos hr]
 have hr:eRef t i=false:=by simpa using hr
 have hif:∀ (a b:Int),(if eRef t i=true then a else b)=b:=fun a b=>by rw [if_neg (by rw [hr];exact Bool.false_ne_true)]
 obtain ⟨⟨ht0,ht1⟩,hi0,hi1⟩:=zhy hr
 by_cases hx:entOk x=true
 ·have hl:=zgt x
  (have tk:=za zb9 <| za zW <| za zbt <| za zb8 <| za zbN <| za zaC <| zb Tryz.prog;have fx:=(⟨hif,hx,hl⟩:_∧_∧_);repeat' (first|(refine hK _ ?_;clear hK K)|refine wa fun K hK=>?_|refine wb ?_|refine wc ?_ ?_|exact we|refine fun (hc:_=(_:Bool))=>?_|clear hK K))
  rw [eset,if_neg (by rw [hr];exact Bool.false_ne_true),if_neg (by rw [hx];exact fun h=>by cases h)]
 ·have hx:entOk x=false:=by simpa using hx
  (have tk:=za zb9 <| za zW <| za zbt <| za zb8 <| za zbN <| za zaC <| zb Tryz.prog;have fx:=(⟨hif,hx⟩:_∧_);repeat' (first|(refine hK _ ?_;clear hK K)|refine wa fun K hK=>?_|refine wb ?_|refine wc ?_ ?_|exact we|refine fun (hc:_=(_:Bool))=>?_|clear hK K))
  rw [eset,if_neg (by rw [hr];exact Bool.false_ne_true),if_pos hx]
@[go_sem] noncomputable def zkN:Ent Tryz.prog 284:= .m5 zq zw (intT .i64) (intT .i64) zgs zt3
theorem zsx (d:Disk) (p:Plan) (l1 g:Int) (h:DP d p):AC 167 [diskA d,planA p,.d (.int .i64 l1),.d (.int .i64 g)] (.tup [entA (elook d p l1 g).1,.d (.int .i64 (elook d p l1 g).2)]):=by
 refine fbod Tryz.func167 Tryz.ntmps167 (fun base=>?_)
 by_cases hg:g<0∨64≤g
 ·have hdec:(decide (g<0)||decide (64≤g))=true:=by simpa using hg
  (have tk:=za zfu <| zb Tryz.prog;have fx:=hdec;(repeat' (first|(refine hK _ ?_;clear hK K)|refine wa fun K hK=>?_|refine wb ?_|refine wc ?_ ?_|exact we|refine fun (hc:_=(_:Bool))=>?_|clear hK K));all_goals clear fx)
  rw [elook,if_pos hg]
 ·have hdec:(decide (g<0)||decide (64≤g))=false:=by simpa using hg
  have hw1:IntKind.i64.wrap (g.tdiv 16)=g / 16:=by rw [Int.tdiv_eq_ediv_of_nonneg (by omega),zg (by omega) (by omega)]
  have hw2:g.tmod 16=g % 16:=Int.tmod_eq_emod_of_nonneg (by omega)
  (have tk:=za zfu <| zb Tryz.prog;have fx:=(⟨hdec,hw1,hw2⟩:_∧_∧_);(repeat' (first|(refine hK _ ?_;clear hK K)|refine wa fun K hK=>?_|refine wb ?_|refine wc ?_ ?_|exact we|refine fun (hc:_=(_:Bool))=>?_|clear hK K));all_goals clear fx)
  all_goals (rw [elook,if_neg hg];by_cases e1:(eget d p l1 (g / 16)).2=0<;>by_cases e2:(eget d p l1 (g / 16)).1.kind=2<;>by_cases e3:(eget d p l1 (g / 16)).1.kind=0<;>simp_all;done)
@[go_sem] noncomputable def zdD:Ent Tryz.prog 167:= .m4 zq zw (intT .i64) (intT .i64) zsx
open Go Go.Proofs
theorem zoC (p:Plan) (i:Int) (_:True):AC 298 [planA p,.d (.int .i64 i)] (.tup [.d (.str z64),.d (.int .i64 0)]):=by
 refine bod Tryz.func298 Tryz.ntmps298 (fun base=>?_)
 (have tk:=za za2 <| za zbC <| za zW <| zb Tryz.prog;repeat' (first|(refine hK _ ?_;clear hK K)|refine wa fun K hK=>?_|refine wb ?_|refine wc ?_ ?_|exact we|clear hK K))
 rfl
@[go_sem] noncomputable def zbf:Ent Tryz.prog 298:= .m2 zw (intT .i64) zoC
theorem zqF (q:Plan) (i:Int) (d:Disk) (a:Int) (hd:DiskOk d) (hq:PlanOk q) (hl:q.targets.length=q.texts.length) (h0:0≤a) (h1:a<256) (h2:0≤i) (h3:i<2):ACall Tryz.prog 220 0 [planA q,.d (.int .i64 i),.dp (diskC d),.dp [.d (.int .i64 a)]] [] (fun r _=>r= .tup [.d (.str (plook d q (96+2*a+i)).1),.d (.int .i64 (plook d q (96+2*a+i)).2)]):=by
 refine bod Tryz.func220 Tryz.ntmps220 (fun base=>?_)
 have hw1:IntKind.i64.wrap (96+2*a+i)=96+2*a+i:=zg (by omega) (by omega)
 (have tk:=za za2 <| za zbC <| za zW <| zb Tryz.prog;have fx:=hw1;repeat' (first|(refine hK _ ?_;clear hK K)|refine wa fun K hK=>?_|refine wb ?_|refine wc ?_ ?_|exact we|clear hK K))
@[go_sem] noncomputable def zbE:Ent Tryz.prog 220:= .ofL (consL zw (consL (intT .i64) (consL zpz (consL (dpT (consL (intT .i64) nilL) (fun p=>p) (fun p=>p) (fun _=>rfl)) nilL)))) (fun (q,i,d,(a,_),_)=>(DiskOk d)∧(PlanOk q)∧(q.targets.length=q.texts.length)∧(0≤a)∧(a<256)∧(0≤i)∧(i<2)) (fun (q,i,d,(a,_),_)=> .tup [.d (.str (plook d q (96+2*a+i)).1),.d (.int .i64 (plook d q (96+2*a+i)).2)]) (fun (q,i,d,(a,_),_) hp=>⟨rfl,zqF q i d a hp.1 hp.2.1 hp.2.2.1 hp.2.2.2.1 hp.2.2.2.2.1 hp.2.2.2.2.2.1 hp.2.2.2.2.2.2⟩)
theorem zqG (p:Plan) (t:Int) (hp:pfit p=true) (ht0:0≤t) (ht1:t<256):ACall Tryz.prog 219 0 [planA p,.d (.int .i64 t),.fn (.func 298) [] []] [] (fun r _=>r= .tup [planA (zbb p t (fun _ _=>(z64,0)) 2 0 p).1,.d (.int .i64 (zbb p t (fun _ _=>(z64,0)) 2 0 p).2)]):=by
 refine fbod Tryz.func219 Tryz.ntmps219 (fun base=>?_)
 obtain ⟨f,hf⟩:∃f:Plan→Int→Txt×Int,f=fun _ _=>(z64,0):=⟨_,rfl⟩
 rw [← hf]
 (have tk:=za zbf <| za zbE <| za zbC <| za zbu <| zb Tryz.prog;repeat' (first|(refine hK _ ?_;clear hK K)|refine wa fun K hK=>?_|refine wb ?_|refine wc ?_ ?_|exact we|refine fun (hc:_=(_:Bool))=>?_|clear hK K))
 refine zo (fun q: { q:Nat×Plan // q.1≤2∧pfit q.2=true∧zbb p t f 2 0 p=zbb p t f (2 - q.1) q.1 q.2 } =>⟨[(1,true,.d (.int .i64 t)),(2,true,.fn (.func 298) [] []),(3,true,.vp 0 0),(6,true,.vp 1 0),(8,true,.vp 2 0),(13,true,.d (.int .i64 q.1.1))],[(2,(.var [.d (.sl 1 (q.1.2.targets.map intD)),.d (.sl 1 (q.1.2.texts.map strD))])),(1,.var [.nils 1,.nils 1]),(0,(.var [.d (.sl 1 (p.targets.map intD)),.d (.sl 1 (p.texts.map strD))]))],some []⟩) (fun q=>2 - q.1.1) ⟨(0,p),Nat.zero_le 2,hp,rfl⟩ le1 (fun q=>?_)
 obtain ⟨⟨i,q⟩,hi,hq,hf2⟩:=q
 simp only at hi hq hf2 ⊢
 have hqo:=PlanOk.of hq
 obtain ⟨hql,hq24,_⟩:=zaz hq
 rcases Nat.lt_or_ge i 2 with hlt|hge
 ·have hcmp:decide ((i:Int)<2)=true:=decide_eq_true (by omega)
  have hwi:=zp (i:=i) (by omega)
  have hw1:IntKind.i64.wrap (96+2*t+(i:Int))=96+2*t+i:=zg (by omega) (by omega)
  rw [zeE p t f i q hlt] at hf2
  have hf0:f q i=(z64,0):=by rw [hf]
  simp only [hf0] at hf2
  rw [if_neg (show ¬(0:Int)≠0 by decide)] at hf2
  (have tk:=za zbf <| za zbE <| za zbC <| za zbu <| zb Tryz.prog;have fx:=(⟨hcmp,hw1⟩:_∧_);repeat' (first|(refine hK _ ?_;clear hK K)|refine wa fun K hK=>?_|refine wb ?_|refine wc ?_ ?_|exact we|refine fun (hc:_=(_:Bool))=>?_|clear hK K))
  ·have hc:(pset q (96+2*t+i) z64).2≠0:=by simpa using hc
   rw [hf2,if_pos hc]
  ·have hc:¬(pset q (96+2*t+i) z64).2≠0:=by simpa using hc
   rw [if_neg hc] at hf2
   exact ⟨⟨(i+1,(pset q (96+2*t+i) z64).1),by omega,zda hq,hf2⟩,lew,by simp;omega⟩
 ·have hcmp:decide ((i:Int)<2)=false:=decide_eq_false (by omega)
  (have tk:=za zbf <| za zbE <| za zbC <| za zbu <| zb Tryz.prog;have fx:=hcmp;repeat' (first|(refine hK _ ?_;clear hK K)|refine wa fun K hK=>?_|refine wb ?_|refine wc ?_ ?_|exact we|refine fun (hc:_=(_:Bool))=>?_|clear hK K))
  rw [hf2,show 2 - i=0 by omega]
  rfl
@[go_sem] noncomputable def zhG:Ent Tryz.prog 219:= .ofL (consL zw (consL (intT .i64) (consL (fnT 298 nilL) nilL))) (fun (p,t,_,_)=>(pfit p=true)∧(0≤t)∧(t<256)) (fun (p,t,_,_)=> .tup [planA (zbb p t (fun _ _=>(z64,0)) 2 0 p).1,.d (.int .i64 (zbb p t (fun _ _=>(z64,0)) 2 0 p).2)]) (fun (p,t,_,_) hp=>⟨rfl,zqG p t hp.1 hp.2.1 hp.2.2⟩)
theorem zqH (p:Plan) (t:Int) (d:Disk) (a:Int) (h:DP d p) (ht0:0≤t) (ht1:t<256) (h0:0≤a) (h1:a<256):ACall Tryz.prog 219 4 [planA p,.d (.int .i64 t),.fn (.func 220) [] [.vp 0 0,.vp 2 0]] [(3,.var [.nils 1,.nils 1]),(2,.var [.d (.int .i64 a)]),(1,(.var [.d (.sl 1 (p.targets.map intD)),.d (.sl 1 (p.texts.map strD))])),(0,(.var [.d (.str d.data),.d (.sl 2 (d.cache.map putD)),.d (.int .i64 d.fuse),.d (.bool d.off),.d (.sl 1 (d.bad.map intD))]))] (fun r h'=>r= .tup [planA (zbb p t (fun q i=>plook d q (96+2*a+i)) 2 0 p).1,.d (.int .i64 (zbb p t (fun q i=>plook d q (96+2*a+i)) 2 0 p).2)]∧h'= [(3,.var [.nils 1,.nils 1]),(2,.var [.d (.int .i64 a)]),(1,(.var [.d (.sl 1 (p.targets.map intD)),.d (.sl 1 (p.texts.map strD))])),(0,(.var [.d (.str d.data),.d (.sl 2 (d.cache.map putD)),.d (.int .i64 d.fuse),.d (.bool d.off),.d (.sl 1 (d.bad.map intD))]))]):=by
 refine zR (fun i=>decide (i<4)) ?_
 refine bod Tryz.func219 Tryz.ntmps219 (fun base=>?_)
 have hp:=h.p
 have hdo:=h.dok
 obtain ⟨f,hf⟩:∃f:Plan→Int→Txt×Int,f=fun q i=>plook d q (96+2*a+i):=⟨_,rfl⟩
 rw [← hf]
 (have tk:=za zbf <| za zbE <| za zbC <| za zbu <| zb Tryz.prog;repeat' (first|(refine hK _ ?_;clear hK K)|refine wa fun K hK=>?_|refine wb ?_|refine wc ?_ ?_|exact we|refine fun (hc:_=(_:Bool))=>?_|clear hK K))
 refine zo (fun q: { q:Nat×Plan // q.1≤2∧pfit q.2=true∧zbb p t f 2 0 p=zbb p t f (2 - q.1) q.1 q.2 } =>⟨[(1,true,.d (.int .i64 t)),(2,true,.fn (.func 220) [] [.vp 0 0,.vp 2 0]),(3,true,.vp 4 0),(6,true,.vp 5 0),(8,true,.vp 6 0),(13,true,.d (.int .i64 q.1.1))],[(6,(.var [.d (.sl 1 (q.1.2.targets.map intD)),.d (.sl 1 (q.1.2.texts.map strD))])),(5,.var [.nils 1,.nils 1]),(4,(.var [.d (.sl 1 (p.targets.map intD)),.d (.sl 1 (p.texts.map strD))])),(3,.var [.nils 1,.nils 1]),(2,.var [.d (.int .i64 a)]),(1,(.var [.d (.sl 1 (p.targets.map intD)),.d (.sl 1 (p.texts.map strD))])),(0,(.var [.d (.str d.data),.d (.sl 2 (d.cache.map putD)),.d (.int .i64 d.fuse),.d (.bool d.off),.d (.sl 1 (d.bad.map intD))]))],some []⟩) (fun q=>2 - q.1.1) ⟨(0,p),Nat.zero_le 2,hp,rfl⟩ le1 (fun q=>?_)
 obtain ⟨⟨i,q⟩,hi,hq,hf2⟩:=q
 simp only at hi hq hf2 ⊢
 have hqo:=PlanOk.of hq
 obtain ⟨hql,hq24,_⟩:=zaz hq
 have hdq:DP d q:=⟨h.d,hq⟩
 rcases Nat.lt_or_ge i 2 with hlt|hge
 ·have hcmp:decide ((i:Int)<2)=true:=decide_eq_true (by omega)
  have hwi:=zp (i:=i) (by omega)
  have hw1:IntKind.i64.wrap (96+2*t+(i:Int))=96+2*t+i:=zg (by omega) (by omega)
  rw [zeE p t f i q hlt] at hf2
  have hf0:f q i=plook d q (96+2*a+i):=by rw [hf]
  simp only [hf0] at hf2
  by_cases he:(plook d q (96+2*a+i)).2=0
  ·have hb:((plook d q (96+2*a+i)).2 !=0)=false:=by simpa using he
   have h64:=zcA hdq he
   rw [if_neg (by simpa using he)] at hf2
   (have tk:=za zbf <| za zbE <| za zbC <| za zbu <| zb Tryz.prog;have fx:=(⟨hcmp,hw1,hb⟩:_∧_∧_);repeat' (first|(refine hK _ ?_;clear hK K)|refine wa fun K hK=>?_|refine wb ?_|refine wc ?_ ?_|exact we|refine fun (hc:_=(_:Bool))=>?_|clear hK K))
   ·have hc:(pset q (96+2*t+i) (plook d q (96+2*a+i)).1).2≠0:=by simpa using hc
    rw [if_pos hc] at hf2
    rw [hf2]
   ·have hc:¬(pset q (96+2*t+i) (plook d q (96+2*a+i)).1).2≠0:=by simpa using hc
    rw [if_neg hc] at hf2
    exact ⟨⟨(i+1,(pset q (96+2*t+i) (plook d q (96+2*a+i)).1).1),by omega,zda hq,hf2⟩,lew,by simp;omega⟩
  ·have hb:((plook d q (96+2*a+i)).2 !=0)=true:=by simpa using he
   rw [if_pos (by simpa using he)] at hf2
   (have tk:=za zbf <| za zbE <| za zbC <| za zbu <| zb Tryz.prog;have fx:=(⟨hcmp,hb⟩:_∧_);repeat' (first|(refine hK _ ?_;clear hK K)|refine wa fun K hK=>?_|refine wb ?_|refine wc ?_ ?_|exact we|refine fun (hc:_=(_:Bool))=>?_|clear hK K))
   rw [hf2]
 ·have hcmp:decide ((i:Int)<2)=false:=decide_eq_false (by omega)
  (have tk:=za zbf <| za zbE <| za zbC <| za zbu <| zb Tryz.prog;have fx:=hcmp;repeat' (first|(refine hK _ ?_;clear hK K)|refine wa fun K hK=>?_|refine wb ?_|refine wc ?_ ?_|exact we|refine fun (hc:_=(_:Bool))=>?_|clear hK K))
  rw [hf2,show 2 - i=0 by omega]
  rfl
theorem zqI (p:Plan) (t:Int) (hp:pfit p=true):AC 280 [planA p,.d (.int .i64 t)] (.tup [planA (eblank p t).1,.d (.int .i64 (eblank p t).2)]):=by
 refine fbod Tryz.func280 Tryz.ntmps280 (fun base=>?_)
 by_cases hk:zM t=true
 ·obtain ⟨ht0,ht1⟩:=hostOk_iff.1 hk
  have hbl:eblank p t=zbb p t (fun _ _=>(z64,0)) 2 0 p:=by rw [eblank,if_neg (by rw [hk];exact fun h=>by cases h)]
  (have tk:=za zcl <| za zhG <| zb Tryz.prog;have fx:=hk;repeat' (first|(refine hK _ ?_;clear hK K)|refine wa fun K hK=>?_|refine wb ?_|refine wc ?_ ?_|exact we|refine fun (hc:_=(_:Bool))=>?_|clear hK K))
  rw [hbl]
 ·have hk:zM t=false:=by simpa using hk
  (have tk:=za zcl <| za zhG <| zb Tryz.prog;have fx:=hk;repeat' (first|(refine hK _ ?_;clear hK K)|refine wa fun K hK=>?_|refine wb ?_|refine wc ?_ ?_|exact we|refine fun (hc:_=(_:Bool))=>?_|clear hK K))
  rw [eblank,if_pos hk]
@[go_sem] noncomputable def zhH:Ent Tryz.prog 280:= .m2 zw (intT .i64) zqI
theorem zsy (d:Disk) (p:Plan) (a t:Int) (h:DP d p):AC 153 [diskA d,planA p,.d (.int .i64 a),.d (.int .i64 t)] (.tup [planA (ecopy d p a t).1,.d (.int .i64 (ecopy d p a t).2)]):=by
 refine fbod Tryz.func153 Tryz.ntmps153 (fun base=>?_)
 by_cases hk:zM a=false∨zM t=false
 ·have hdec:(!zM a|| !zM t)=true:=by simpa using hk
  (have tk:=za zcl <| zb Tryz.prog;have fx:=hdec;repeat' (first|(refine hK _ ?_;clear hK K)|refine wa fun K hK=>?_|refine wb ?_|refine wc ?_ ?_|exact we|refine fun (hc:_=(_:Bool))=>?_|clear hK K))
  rw [ecopy,if_pos hk]
 ·have hdec:(!zM a|| !zM t)=false:=by simpa using hk
  have hcp:ecopy d p a t=zbb p t (fun q i=>plook d q (96+2*a+i)) 2 0 p:=by rw [ecopy,if_neg hk]
  simp only [not_or,Bool.not_eq_false] at hk
  obtain ⟨ha0,ha1⟩:=hostOk_iff.1 hk.1
  obtain ⟨ht0,ht1⟩:=hostOk_iff.1 hk.2
  (have tk:=za zcl <| zb Tryz.prog;have fx:=(⟨hdec,hk.1,hk.2⟩:_∧_∧_);repeat' (first|(refine hK _ ?_;clear hK K)|refine wa fun K hK=>?_|refine wb ?_|refine wc ?_ ?_|exact we|refine fun (hc:_=(_:Bool))=>?_|clear hK K))
  refine ((zqH p t d a h ht0 ht1 ha0 ha1).whole (zap rfl) (by omega) (by rintro r h' ⟨_,rfl⟩ i hi;exact hi)).mono ?_
  rintro r h' ⟨rfl,rfl⟩
  simp only [go_sem,aeq,aeq.aeqF,simprocAttr]
  (have tk:=za zcl <| zb Tryz.prog;have fx:=Go.Aw.fx;repeat' (first|(refine hK _ ?_;clear hK K)|refine wa fun K hK=>?_|refine wb ?_|refine wc ?_ ?_|exact we|refine fun (hc:_=(_:Bool))=>?_|clear hK K))
  rw [hcp]
@[go_sem] noncomputable def zca:Ent Tryz.prog 153:= .m4 zq zw (intT .i64) (intT .i64) zsy
open Go Go.Proofs
def pfill (d:Disk) (p:Plan) (fr k:Int):Plan×Int:=if fr<0 then eblank p k else ecopy d p fr k
def pless (d:Disk) (p:Plan) (fr:Int):Plan×Int:=if fr<0 then (p,0) else radd d p fr (-1)
def pfresh (d:Disk) (p:Plan) (g:Geom) (l1 i fr:Int):Plan×Int×Int:=
 if (rtake d p g).2.2≠0 then (p,0,(rtake d p g).2.2)
 else if (pfill d (rtake d p g).1 fr (rtake d p g).2.1).2≠0 then (p,0,(pfill d (rtake d p g).1 fr (rtake d p g).2.1).2)
 else if (pless d (pfill d (rtake d p g).1 fr (rtake d p g).2.1).1 fr).2≠0 then (p,0,(pless d (pfill d (rtake d p g).1 fr (rtake d p g).2.1).1 fr).2)
 else if (eset d (pless d (pfill d (rtake d p g).1 fr (rtake d p g).2.1).1 fr).1 l1 i ⟨1,(rtake d p g).2.1⟩).2≠0 then (p,0,(eset d (pless d (pfill d (rtake d p g).1 fr (rtake d p g).2.1).1 fr).1 l1 i ⟨1,(rtake d p g).2.1⟩).2)
 else ((eset d (pless d (pfill d (rtake d p g).1 fr (rtake d p g).2.1).1 fr).1 l1 i ⟨1,(rtake d p g).2.1⟩).1,(rtake d p g).2.1,0)
def pown2 (d:Disk) (p:Plan) (g:Geom) (l1 i:Int):Plan×Int×Int:=
 if (eget d p l1 i).2≠0 then (p,0,(eget d p l1 i).2) else if (eget d p l1 i).1.kind=2 then (p,0,14)
 else if (eget d p l1 i).1.kind=0 then pfresh d p g l1 i (-1) else if (rget d p (eget d p l1 i).1.loc).2≠0 then (p,0,(rget d p (eget d p l1 i).1.loc).2)
 else if (rget d p (eget d p l1 i).1.loc).1≤1 then (p,(eget d p l1 i).1.loc,0) else pfresh d p g l1 i (eget d p l1 i).1.loc
def pown (d:Disk) (p:Plan) (g:Geom) (guest:Int):Plan×Int×Int:=
 if guest<0∨g.guest≤guest then (p,0,10) else if (zA d p).2≠0 then (p,0,(zA d p).2) else pown2 d p g (zA d p).1.l1 (guest / 16)
def zl3 (d:Disk) (p q:Plan) (t i:Int) (x:Ent2):Plan×Int:=
  if (eget d q t i).2≠0 then (p,(eget d q t i).2)
  else if (eget d q t i).1.kind=1 then
    (if (radd d q (eget d q t i).1.loc (-1)).2≠0 then (p,(radd d q (eget d q t i).1.loc (-1)).2)
     else if (eset d (radd d q (eget d q t i).1.loc (-1)).1 t i x).2≠0 then (p,(eset d (radd d q (eget d q t i).1.loc (-1)).1 t i x).2) else ((eset d (radd d q (eget d q t i).1.loc (-1)).1 t i x).1,0))
  else if (eset d q t i x).2≠0 then (p,(eset d q t i x).2) else ((eset d q t i x).1,0)
def ppoint (d:Disk) (p:Plan) (g:Geom) (guest:Int) (x:Ent2):Plan×Int:=
 if (pown d p g guest).2.2≠0 then (p,(pown d p g guest).2.2) else zl3 d p (pown d p g guest).1 (pown d p g guest).2.1 (guest % 16) x
theorem DP.pfill {d:Disk} {p:Plan} (h:DP d p) (a b:Int):DP d (pfill d p a b).1:=by unfold Aw.pfill;split;exact h.eblank _;exact h.ecopy _ _
theorem DP.pless {d:Disk} {p:Plan} (h:DP d p) (a:Int):DP d (pless d p a).1:=by unfold Aw.pless;split;exact h;exact h.radd _ _
theorem DP.pfresh {d:Disk} {p:Plan} (h:DP d p) (g:Geom) (l1 i fr:Int):DP d (pfresh d p g l1 i fr).1:=by
 unfold Aw.pfresh
 split
 ·exact h
 split
 ·exact h
 split
 ·exact h
 split
 ·exact h
 ·exact (((h.rtake g).pfill _ _).pless _).eset _ _ _
theorem DP.pown {d:Disk} {p:Plan} (h:DP d p) (g:Geom) (guest:Int):DP d (pown d p g guest).1:=by
 unfold Aw.pown
 split
 ·exact h
 split
 ·exact h
 unfold Aw.pown2
 split
 ·exact h
 split
 ·exact h
 split
 ·exact h.pfresh _ _ _ _
 split
 ·exact h
 split
 ·exact h
 ·exact h.pfresh _ _ _ _
theorem DP.ppoint {d:Disk} {p:Plan} (h:DP d p) (g:Geom) (guest:Int) (x:Ent2):DP d (ppoint d p g guest x).1:=by
 have ho:=h.pown g guest
 unfold Aw.ppoint
 split
 ·exact h
 unfold zl3
 split
 ·exact h
 split
 ·split
  ·exact h
  split
  ·exact h
  ·exact (ho.radd _ _).eset _ _ _
 ·split
  ·exact h
  ·exact ho.eset _ _ _
theorem zl4 (d:Disk) (p:Plan) (g:Geom) (l1 i fr:Int) (hp:DP d p∧g.host≤1000000):AC 247 [diskA d,planA p,geomA g,.d (.int .i64 l1),.d (.int .i64 i),.d (.int .i64 fr)] (.tup [planA (pfresh d p g l1 i fr).1,.d (.int .i64 (pfresh d p g l1 i fr).2.1),.d (.int .i64 (pfresh d p g l1 i fr).2.2)]):=by
 obtain ⟨h,hg⟩:=hp
 refine fbod Tryz.func247 Tryz.ntmps247 (fun base=>?_)
 have h1:=h.rtake g
 have h2:=h1.p
 rw [pfresh]
 obtain ⟨T,hT⟩:∃T,T=rtake d p g:=⟨_,rfl⟩
 rw [← hT] at h1 h2 ⊢
 by_cases hfr:fr<0
 ·have hd1:decide (fr<0)=true:=decide_eq_true hfr
  have hd2:decide (0≤fr)=false:=decide_eq_false (by omega)
  have e1:∀q k,pfill d q fr k=eblank q k:=fun q k=>by rw [pfill,if_pos hfr]
  have e2:∀q,pless d q fr=(q,0):=fun q=>by rw [pless,if_pos hfr]
  simp only [e1,e2]
  have h3:=h1.eblank T.2.1
  obtain ⟨B,hB⟩:∃B,B=eblank T.1 T.2.1:=⟨_,rfl⟩
  rw [← hB] at h3 ⊢
  obtain ⟨C,hC⟩:∃C,C=eset d B.1 l1 i ⟨1,T.2.1⟩:=⟨_,rfl⟩
  rw [← hC]
  (have tk:=za zO <| za zfq <| za zG <| za zK <| za zdU <| zb Tryz.prog;have fx:=(⟨hd1,hd2,hT.symm,hB.symm,hC.symm⟩:_∧_∧_∧_∧_);(repeat' (first|(refine hK _ ?_;clear hK K)|refine va fun K hK=>?_|refine vb ?_|refine wc ?_ ?_|exact we|refine fun (hc:_=(_:Bool))=>?_|clear hK K));all_goals clear fx)
  all_goals (clear h1 h2 h3 hT hB hC e1 e2 hd1 hd2;simp_all;done)
 ·have hd1:decide (fr<0)=false:=decide_eq_false hfr
  have hd2:decide (0≤fr)=true:=decide_eq_true (by omega)
  have e1:∀q k,pfill d q fr k=ecopy d q fr k:=fun q k=>by rw [pfill,if_neg hfr]
  have e2:∀q,pless d q fr=radd d q fr (-1):=fun q=>by rw [pless,if_neg hfr]
  simp only [e1,e2]
  have h3:=h1.ecopy fr T.2.1
  obtain ⟨B,hB⟩:∃B,B=ecopy d T.1 fr T.2.1:=⟨_,rfl⟩
  rw [← hB] at h3 ⊢
  have h4:=h3.radd fr (-1)
  obtain ⟨N,hN⟩:∃N,N=radd d B.1 fr (-1):=⟨_,rfl⟩
  rw [← hN] at h4 ⊢
  obtain ⟨C,hC⟩:∃C,C=eset d N.1 l1 i ⟨1,T.2.1⟩:=⟨_,rfl⟩
  rw [← hC]
  (have tk:=za zO <| za zfq <| za zG <| za zK <| za zdU <| zb Tryz.prog;have fx:=(⟨hd1,hd2,hT.symm,hB.symm,hN.symm,hC.symm⟩:_∧_∧_∧_∧_∧_);(repeat' (first|(refine hK _ ?_;clear hK K)|refine va fun K hK=>?_|refine vb ?_|refine wc ?_ ?_|exact we|refine fun (hc:_=(_:Bool))=>?_|clear hK K));all_goals clear fx)
  all_goals (clear h1 h2 h3 h4 hT hB hC hN e1 e2 hd1 hd2;simp_all;done)
@[go_sem] noncomputable def zfr:Ent Tryz.prog 247:= .m6 zq zw zdT (intT .i64) (intT .i64) (intT .i64) zl4
open Go Go.Proofs
theorem zqq (d:Disk) (p:Plan) (g:Geom) (k:Int) (hp:DP d p∧g.host≤1000000∧g.guest≤1000000):AC 187 [diskA d,planA p,geomA g,.d (.int .i64 k)] (.tup [planA (pown d p g k).1,.d (.int .i64 (pown d p g k).2.1),.d (.int .i64 (pown d p g k).2.2)]):=by
 obtain ⟨h,hg,hh⟩:=hp
 refine fbod Tryz.func187 Tryz.ntmps187 (fun base=>?_)
 by_cases hk:k<0∨g.guest≤k
 ·have hdec:(decide (k<0)||decide (g.guest≤k))=true:=by simpa using hk
  (have tk:=za zag <| za zaJ <| za zX <| za zfr <| zb Tryz.prog;have fx:=hdec;(repeat' (first|(refine hK _ ?_;clear hK K)|refine va fun K hK=>?_|refine vb ?_|refine wc ?_ ?_|exact we|refine fun (hc:_=(_:Bool))=>?_|clear hK K));all_goals clear fx)
  rw [pown,if_pos hk]
 have hdec:(decide (k<0)||decide (g.guest≤k))=false:=by simpa using hk
 rw [pown,if_neg hk]
 obtain ⟨R,hR⟩:∃R,R=zA d p:=⟨_,rfl⟩
 rw [← hR]
 have hw1:IntKind.i64.wrap (k.tdiv 16)=k / 16:=by rw [Int.tdiv_eq_ediv_of_nonneg (by omega),zg (by omega) (by omega)]
 obtain ⟨I,hI⟩:∃I,I=k / 16:=⟨_,rfl⟩
 rw [← hI]
 obtain ⟨X,hX⟩:∃X,X=eget d p R.1.l1 I:=⟨_,rfl⟩
 obtain ⟨N,hN⟩:∃N,N=rget d p X.1.loc:=⟨_,rfl⟩
 rw [pown2,← hX,← hN]
 (have tk:=za zag <| za zaJ <| za zX <| za zfr <| zb Tryz.prog;have fx:=(⟨hdec,hw1,hR.symm,hI.symm,hX.symm,hN.symm⟩:_∧_∧_∧_∧_∧_);(repeat' (first|(refine hK _ ?_;clear hK K)|refine va fun K hK=>?_|refine vb ?_|refine wc ?_ ?_|exact we|refine fun (hc:_=(_:Bool))=>?_|clear hK K));all_goals clear fx)
 all_goals (clear hR hI hX hN hw1 hdec;first|(simp_all;done)|(simp_all;simp only [if_neg (show ¬N.1≤1 by omega)];simp;done))
@[go_sem] noncomputable def zhz:Ent Tryz.prog 187:= .m4 zq zw zdT (intT .i64) zqq
theorem zl5 (d:Disk) (p:Plan) (g:Geom) (k:Int) (x:Ent2) (hp:DP d p∧g.host≤1000000∧g.guest≤1000000):AC 121 [diskA d,planA p,geomA g,.d (.int .i64 k),entA x] (.tup [planA (ppoint d p g k x).1,.d (.int .i64 (ppoint d p g k x).2)]):=by
 obtain ⟨h,hg,hh⟩:=hp
 refine fbod Tryz.func121 Tryz.ntmps121 (fun base=>?_)
 have h1:=h.pown g k
 by_cases he:(pown d p g k).2.2=0
 ·have hb:((pown d p g k).2.2 !=0)=false:=by simpa using he
  have hk0:0≤k∧k<g.guest:=by
   unfold pown at he
   by_cases hk:k<0∨g.guest≤k
   ·rw [if_pos hk] at he;cases he
   ·omega
  rw [ppoint,if_neg (by simpa using he)]
  obtain ⟨O,hO⟩:∃O,O=pown d p g k:=⟨_,rfl⟩
  rw [← hO] at h1 ⊢
  have hw2:k.tmod 16=k % 16:=Int.tmod_eq_emod_of_nonneg (by omega)
  obtain ⟨I,hI⟩:∃I,I=k % 16:=⟨_,rfl⟩
  obtain ⟨X,hX⟩:∃X,X=eget d O.1 O.2.1 I:=⟨_,rfl⟩
  have h2:=h1.radd X.1.loc (-1)
  obtain ⟨N,hN⟩:∃N,N=radd d O.1 X.1.loc (-1):=⟨_,rfl⟩
  rw [← hN] at h2
  obtain ⟨S,hS⟩:∃S,S=eset d N.1 O.2.1 I x:=⟨_,rfl⟩
  obtain ⟨S',hS'⟩:∃S',S'=eset d O.1 O.2.1 I x:=⟨_,rfl⟩
  rw [zl3,← hI,← hX,← hN,← hS,← hS']
  rw [← hO] at hb
  have hx1:eset d N.1 O.2.1 I ⟨x.kind,x.loc⟩=S:=hS.symm
  have hx2:eset d O.1 O.2.1 I ⟨x.kind,x.loc⟩=S':=hS'.symm
  (have tk:=za zhz <| za zaJ <| za zK <| za zdU <| zb Tryz.prog;have fx:=(⟨hw2,hO.symm,hI.symm,hX.symm,hN.symm,hb,hx1,hx2⟩:_∧_∧_∧_∧_∧_∧_∧_);(repeat' (first|(refine hK _ ?_;clear hK K)|refine va fun K hK=>?_|refine vb ?_|refine wc ?_ ?_|exact we|refine fun (hc:_=(_:Bool))=>?_|clear hK K));all_goals clear fx)
  all_goals (clear hO hI hX hN hS hS' hx1 hx2 hw2 h1 h2 hb;simp_all;done)
 ·have hb:((pown d p g k).2.2 !=0)=true:=by simpa using he
  (have tk:=za zhz <| za zaJ <| za zK <| za zdU <| zb Tryz.prog;have fx:=hb;repeat' (first|(refine hK _ ?_;clear hK K)|refine va fun K hK=>?_|refine vb ?_|refine wc ?_ ?_|exact we|refine fun (hc:_=(_:Bool))=>?_|clear hK K))
  rw [ppoint,if_pos he]
@[go_sem] noncomputable def zae:Ent Tryz.prog 121:= .m5 zq zw zdT (intT .i64) zgs zl5
open Go Go.Proofs
def zdz (d:Disk) (p:Plan) (t:Int):Nat→Int→List Int→List Int×Int
 |0,_,l=>(l,0)
 |m+1,k,l=>if (eget d p t k).2≠0 then ([],(eget d p t k).2) else zdz d p t m (k+1) (if (eget d p t k).1.kind=1 then l++ [(eget d p t k).1.loc] else l)
def zeQ (d:Disk) (p:Plan) (l1:Int):Nat→Int→List Int→List Int×Int
 |0,_,l=>(l,0)
 |m+1,i,l=>if (eget d p l1 i).2≠0 then ([],(eget d p l1 i).2) else if (eget d p l1 i).1.kind=2 then ([],14)
  else if (eget d p l1 i).1.kind=0 then zeQ d p l1 m (i+1) l
  else if (zdz d p (eget d p l1 i).1.loc 16 0 (l++ [(eget d p l1 i).1.loc])).2≠0 then ([],(zdz d p (eget d p l1 i).1.loc 16 0 (l++ [(eget d p l1 i).1.loc])).2)
  else zeQ d p l1 m (i+1) (zdz d p (eget d p l1 i).1.loc 16 0 (l++ [(eget d p l1 i).1.loc])).1
def reach (d:Disk) (p:Plan) (l1:Int):List Int×Int:=zeQ d p l1 4 0 []
theorem ze3 {m n:Nat} (h:m<n):n - m=(n - (m+1))+1:=by omega
theorem zl6 (d:Disk) (p:Plan) (l1:Int) (h:DP d p):AC 50 [diskA d,planA p,.d (.int .i64 l1)] (.tup [.d (.sl 1 ((reach d p l1).1.map intD)),.d (.int .i64 (reach d p l1).2)]):=by
 refine fbod Tryz.func50 Tryz.ntmps50 (fun base=>?_)
 (have tk:=za zaJ <| zb Tryz.prog;repeat' (first|(refine hK _ ?_;clear hK K)|refine va fun K hK=>?_|refine vb ?_|refine wc ?_ ?_|refine fun (nb:Bool) (hnb:nb=true→_)=>?_|exact we|refine fun (hc:_=(_:Bool))=>?_|clear hK K))
 refine zcd 8 1 rfl ?_
 simp only [fresh,top,hget, ↓reduceIte]
 refine zo (fun q: { q:Nat×List Int // q.1≤4∧q.2.length≤17*q.1∧reach d p l1=zeQ d p l1 (4 - q.1) q.1 q.2 } =>⟨[(2,true,.d (.int .i64 l1)),(3,true,.vp 0 0),(4,true,.vp 1 0),(8,true,.osl 2 1 q.1.2.length 0 q.1.2.length),(9,true,.d (.int .i64 q.1.1))],[(2,.arr 1 (q.1.2.map intD)),(1,(.var [.d (.sl 1 (p.targets.map intD)),.d (.sl 1 (p.texts.map strD))])),(0,(.var [.d (.str d.data),.d (.sl 2 (d.cache.map putD)),.d (.int .i64 d.fuse),.d (.bool d.off),.d (.sl 1 (d.bad.map intD))]))],some []⟩) (fun q=>4 - q.1.1) ⟨(0,[]),Nat.zero_le 4,Nat.zero_le 0,rfl⟩ le1 (fun q=>?_)
 obtain ⟨⟨i,l⟩,hi,hll,hf⟩:=q
 simp only at hi hll hf ⊢
 rcases Nat.lt_or_ge i 4 with hlt|hge
 ·have hcmp:decide ((i:Int)<4)=true:=decide_eq_true (by omega)
  have hwi:=zp (i:=i) (by omega)
  rw [ze3 hlt,zeQ] at hf
  obtain ⟨X,hX⟩:∃X,X=eget d p l1 i:=⟨_,rfl⟩
  rw [← hX] at hf
  (have tk:=za zaJ <| zb Tryz.prog;have fx:=(⟨hcmp,hX.symm⟩:_∧_);repeat' (first|(refine hK _ ?_;clear hK K)|refine va fun K hK=>?_|refine vb ?_|refine wc ?_ ?_|refine fun (nb:Bool) (hnb:nb=true→_)=>?_|exact we|refine fun (hc:_=(_:Bool))=>?_|clear hK K))
  ·have hc:X.2≠0:=by simpa using hc
   rw [hf,if_pos hc]
   rfl
  ·rename_i c0
   have c0:¬X.2≠0:=by simpa using c0
   have hc:X.1.kind=2:=by simpa using hc
   rw [hf,if_neg c0,if_pos hc]
   rfl
  ·rename_i c0 c1
   have c0:¬X.2≠0:=by simpa using c0
   have c1:¬X.1.kind=2:=by simpa using c1
   have hc:X.1.kind=0:=by simpa using hc
   rw [if_neg c0,if_neg c1,if_pos hc] at hf
   exact ⟨⟨(i+1,l),by omega,by simp only;omega,hf⟩,lew,by simp;omega⟩
  rename_i c0 c1
  have c0:¬X.2≠0:=by simpa using c0
  have c1:¬X.1.kind=2:=by simpa using c1
  have c2:¬X.1.kind=0:=by simpa using hc
  clear hc
  rw [if_neg c0,if_neg c1,if_neg c2] at hf
  obtain ⟨M,hM⟩:∃M,M=l++ [X.1.loc]:=⟨_,rfl⟩
  have hMr:l.map intD++ [[D.int .i64 X.1.loc]]=M.map intD:=by rw [hM,List.map_append];rfl
  have hMl:l.length+1=M.length:=by rw [hM];simp
  rw [← hM] at hf
  obtain ⟨RJ,hRJ⟩:∃RJ,RJ=zdz d p X.1.loc 16 0 M:=⟨_,rfl⟩
  rw [← hRJ] at hf
  rw [hMr,hMl]
  refine zo (fun q: { q:Nat×List Int // q.1≤16∧q.2.length≤17*i+1+q.1∧RJ=zdz d p X.1.loc (16 - q.1) q.1 q.2 } =>⟨[(2,true,.d (.int .i64 l1)),(3,true,.vp 0 0),(4,true,.vp 1 0),(8,true,.osl 2 1 q.1.2.length 0 q.1.2.length),(9,true,.d (.int .i64 i)),(10,true,.vp 3 0),(12,true,.d (.int .i64 q.1.1))],[(3,.var [.d (.int .i64 X.1.kind),.d (.int .i64 X.1.loc)]),(2,.arr 1 (q.1.2.map intD)),(1,(.var [.d (.sl 1 (p.targets.map intD)),.d (.sl 1 (p.texts.map strD))])),(0,(.var [.d (.str d.data),.d (.sl 2 (d.cache.map putD)),.d (.int .i64 d.fuse),.d (.bool d.off),.d (.sl 1 (d.bad.map intD))]))],some []⟩) (fun q=>16 - q.1.1) ⟨(0,M),Nat.zero_le 16,by simp only;omega,hRJ⟩ le1 (fun q=>?_)
  obtain ⟨⟨k,m⟩,hk,hml,hfj⟩:=q
  simp only at hk hml hfj ⊢
  rcases Nat.lt_or_ge k 16 with hkt|hkge
  ·have hcmpk:decide ((k:Int)<16)=true:=decide_eq_true (by omega)
   have hwk:=zp (i:=k) (by omega)
   rw [ze3 hkt,zdz] at hfj
   obtain ⟨Y,hY⟩:∃Y,Y=eget d p X.1.loc k:=⟨_,rfl⟩
   rw [← hY] at hfj
   (have tk:=za zaJ <| zb Tryz.prog;have fx:=(⟨hcmpk,hY.symm⟩:_∧_);repeat' (first|(refine hK _ ?_;clear hK K)|refine va fun K hK=>?_|refine vb ?_|refine wc ?_ ?_|refine fun (nb:Bool) (hnb:nb=true→_)=>?_|exact we|refine fun (hc:_=(_:Bool))=>?_|clear hK K))
   ·have hc:Y.2≠0:=by simpa using hc
    rw [if_pos hc] at hfj
    rw [hf,hfj,if_pos hc]
    rfl
   ·rename_i c3
    have c3:¬Y.2≠0:=by simpa using c3
    have hc:Y.1.kind=1:=by simpa using hc
    rw [if_neg c3,if_pos hc] at hfj
    exact ⟨⟨(k+1,m++ [Y.1.loc]),by omega,by simp only [List.length_append,List.length_singleton];omega,hfj⟩,by simp only [List.map_append,List.length_append,List.length_singleton];simp only [AS.le,leT,leH,zc,AsgK,AV.le,AV.leL,AObj.le,inH,idsT,idsH,AV.ids,AV.idsL,AV.idsR,AObj.ids,lk,hget,go_sem,aeq,aeq.aeqF,simprocAttr,hwk]<;>and_intros<;>rfl,by simp;omega⟩
   ·rename_i c3
    have c3:¬Y.2≠0:=by simpa using c3
    have hc:¬Y.1.kind=1:=by simpa using hc
    rw [if_neg c3,if_neg hc] at hfj
    exact ⟨⟨(k+1,m),by omega,by simp only;omega,hfj⟩,by simp only [AS.le,leT,leH,zc,AsgK,AV.le,AV.leL,AObj.le,inH,idsT,idsH,AV.ids,AV.idsL,AV.idsR,AObj.ids,lk,hget,go_sem,aeq,aeq.aeqF,simprocAttr,hwk],by simp;omega⟩
  ·have hcmpk:decide ((k:Int)<16)=false:=decide_eq_false (by omega)
   rw [show 16 - k=0 by omega,zdz] at hfj
   rw [hfj,if_neg (show ¬(0:Int)≠0 by decide)] at hf
   (have tk:=za zaJ <| zb Tryz.prog;have fx:=hcmpk;repeat' (first|(refine hK _ ?_;clear hK K)|refine va fun K hK=>?_|refine vb ?_|refine wc ?_ ?_|refine fun (nb:Bool) (hnb:nb=true→_)=>?_|exact we|refine fun (hc:_=(_:Bool))=>?_|clear hK K))
   exact ⟨⟨(i+1,m),by omega,by simp only;omega,hf⟩,lew,by simp;omega⟩
 ·have hcmp:decide ((i:Int)<4)=false:=decide_eq_false (by omega)
  (have tk:=za zaJ <| zb Tryz.prog;have fx:=hcmp;repeat' (first|(refine hK _ ?_;clear hK K)|refine va fun K hK=>?_|refine vb ?_|refine wc ?_ ?_|refine fun (nb:Bool) (hnb:nb=true→_)=>?_|exact we|refine fun (hc:_=(_:Bool))=>?_|clear hK K))
  rw [hf,show 4 - i=0 by omega]
  rfl
@[go_sem] noncomputable def zdV:Ent Tryz.prog 50:= .m3 zq zw (intT .i64) zl6
open Go Go.Proofs
theorem zqM {s:Txt} {i:Nat} (h:s.length=64):(slotB s i).length=16:=by
 unfold slotB
 rw [List.length_drop,List.length_take]
 omega
theorem znu (s:Snp):(snpB s).1.length≤16:=by
 unfold snpB
 split
 ·decide
 split
 ·decide
 ·rename_i hc
  simp only [not_or,Bool.not_eq_false] at hc
  have:=(zel hc.2.1).1
  simp only [List.length_append,zP,List.length_cons,List.length_nil]
  omega
theorem div4 {i:Nat} (h:i<8):IntKind.i64.wrap ((i:Int).tdiv 4)=((i / 4:Nat):Int):=by
 rw [Int.tdiv_eq_ediv_of_nonneg (by omega),zg (by omega) (by omega)];omega
theorem mod4 {i:Nat} :(i:Int).tmod 4=((i % 4:Nat):Int):=by
 rw [Int.tmod_eq_emod_of_nonneg (by omega)];omega
theorem zmq (d:Disk) (p:Plan) (h:DP d p):AC 127 [diskA d,planA p] (.tup [.d (.sl 3 ((snaps d p).1.map snpD)),.d (.int .i64 (snaps d p).2)]):=by
 refine fbod Tryz.func127 Tryz.ntmps127 (fun base=>?_)
 have h1:=h.dok
 have h2:=h.pok
 have h3:=h.plen
 (have tk:=za zx <| za zal <| za zS <| za zaS <| za zay <| zb Tryz.prog;repeat' (first|(refine hK _ ?_;clear hK K)|refine wa fun K hK=>?_|refine wb ?_|refine wc ?_ ?_|refine wl ?_|refine fun (nb:Bool) (hnb:nb=true→_)=>?_|exact we|refine fun (hc:_=(_:Bool))=>?_|clear hK K))
 refine zcd 6 3 rfl ?_
 simp only [fresh,top,hget, ↓reduceIte]
 refine zo (fun q: { q:Nat×List Snp // q.1≤8∧q.2.length=q.1∧snaps d p=zbM d p (8 - q.1) q.1 q.2 } =>⟨[(2,true,.vp 0 0),(3,true,.vp 1 0),(6,true,.osl 2 3 q.1.1 0 q.1.1),(7,true,.d (.int .i64 q.1.1))],[(2,.arr 3 (q.1.2.map snpD)),(1,(.var [.d (.sl 1 (p.targets.map intD)),.d (.sl 1 (p.texts.map strD))])),(0,(.var [.d (.str d.data),.d (.sl 2 (d.cache.map putD)),.d (.int .i64 d.fuse),.d (.bool d.off),.d (.sl 1 (d.bad.map intD))]))],some []⟩) (fun q=>8 - q.1.1) ⟨(0,[]),Nat.zero_le 8,rfl,rfl⟩ le1 (fun q=>?_)
 obtain ⟨⟨i,l⟩,hi,hll,hf⟩:=q
 simp only at hi hll hf ⊢
 rcases Nat.lt_or_ge i 8 with hlt|hge
 ·have hcmp:decide ((i:Int)<8)=true:=decide_eq_true (by omega)
  have hwi:=zp (i:=i) (by omega)
  have hq4:=div4 hlt
  have hm4:=mod4 (i:=i)
  have hw2:IntKind.i64.wrap (2+((i / 4:Nat):Int))=2+((i / 4:Nat):Int):=zg (by omega) (by omega)
  have hw3:IntKind.i64.wrap (((i % 4:Nat):Int)*16)=((i % 4*16:Nat):Int):=by rw [zg (by omega) (by omega)];omega
  have hw4:IntKind.i64.wrap (((i % 4:Nat):Int)+1)=((i % 4+1:Nat):Int):=by rw [zg (by omega) (by omega)];omega
  have hw5:IntKind.i64.wrap (((i % 4+1:Nat):Int)*16)=(((i % 4+1)*16:Nat):Int):=by rw [zg (by omega) (by omega)];omega
  rw [ze3 hlt,zbM] at hf
  by_cases he:(plook d p (2+((i / 4:Nat):Int))).2=0
  ·have hb:((plook d p (2+((i / 4:Nat):Int))).2 !=0)=false:=by simpa using he
   have h64:=zcA h he
   rw [if_neg (by simpa using he)] at hf
   obtain ⟨S,hS⟩:∃S,S=(plook d p (2+((i / 4:Nat):Int))).1:=⟨_,rfl⟩
   rw [← hS] at hf h64
   have hsl:List.drop (i % 4*16) (List.take ((i % 4+1)*16) S)=slotB S i:=rfl
   have hB16:=zqM (i:=i) h64
   obtain ⟨B,hB⟩:∃B,B=slotB S i:=⟨_,rfl⟩
   rw [← hB] at hf hB16 hsl
   have hlm:(l.map snpD).length=i:=by rw [List.length_map,hll]
   (have tk:=za zx <| za zal <| za zS <| za zaS <| za zay <| zb Tryz.prog;have fx:=(⟨hcmp,hq4,hm4,hw2,hw3,hw4,hw5,hb,hS.symm,hsl⟩:_∧_∧_∧_∧_∧_∧_∧_∧_∧_);repeat' ((fail_if_success refine hds 10 (by rfl) ?_);first|(refine hK _ ?_;clear hK K)|refine wa fun K hK=>?_|refine wb ?_|refine wc ?_ ?_|refine wl ?_|refine fun (nb:Bool) (hnb:nb=true→_)=>?_|exact we|refine fun (hc:_=(_:Bool))=>?_|clear hK K))
   obtain ⟨T,hT⟩:∃T,T=snpT B:=⟨_,rfl⟩
   obtain ⟨g1,g2,g3,g4,g5⟩:=zjq B
   rw [← hT] at hf g1 g2 g3 g4 g5
   have hBl:B.length≤9223372036854775807:=by omega
   refine zly ⟨[(2,true,.vp 0 0),(3,true,.vp 1 0),(6,true,.osl 2 3 i 0 i),(7,true,.d (.int .i64 i)),(8,true,.d (.str B)),(10,true,.vp 3 0)],[(3,.var [.d (.int .u32 T.id),.d (.int .i64 T.l1),.d (.str T.name)]),(2,.arr 3 (l.map snpD)),(1,(.var [.d (.sl 1 (p.targets.map intD)),.d (.sl 1 (p.texts.map strD))])),(0,(.var [.d (.str d.data),.d (.sl 2 (d.cache.map putD)),.d (.int .i64 d.fuse),.d (.bool d.off),.d (.sl 1 (d.bad.map intD))]))],some []⟩ ?_ ?_
   ·by_cases hz:B=z16
    ·have hbz:(B != [0,0,0,0,0,0,0,0,0,0,0,0,0,0,0,0])=false:=by rw [hz];rfl
     have hT0:T=⟨0,0,[]⟩:=by rw [hT,snpT,if_pos hz];rfl
     rw [hT0]
     (have tk:=za zx <| za zal <| za zS <| za zaS <| za zay <| zb Tryz.prog;have fx:=hbz;repeat' (first|(refine hK _ ?_;clear hK K)|refine wa fun K hK=>?_|refine wb ?_|refine wc ?_ ?_|refine wl ?_|refine fun (nb:Bool) (hnb:nb=true→_)=>?_|exact we|refine fun (hc:_=(_:Bool))=>?_|clear hK K))
    ·have hbz:(B != [0,0,0,0,0,0,0,0,0,0,0,0,0,0,0,0])=true:=by
      have:B≠ [0,0,0,0,0,0,0,0,0,0,0,0,0,0,0,0]:=hz
      simpa using this
     have hTR:T=snpR B:=by rw [hT,snpT,if_neg hz]
     have ht4:=zcs (s:=B) (z:=4) 4 rfl (by omega) (by omega) (by omega)
     have ht2:=zcs (s:=B.drop 4) (z:=2) 2 rfl (by omega) (by omega) (by rw [List.length_drop];omega)
     have htk:List.take B.length B=B:=List.take_length
     have hL1:(List.drop 4 B).length≤9223372036854775807:=by rw [List.length_drop];omega
     have hL2:(List.drop 8 B).length≤9223372036854775807:=by rw [List.length_drop];omega
     have hu1:IntKind.u32.wrap T.id=T.id:=zeD g1 g2
     have hu2:IntKind.i64.wrap T.l1=T.l1:=zg (by omega) (by omega)
     rw [hTR] at hu1 hu2 ⊢
     simp only [snpR] at hu1 hu2 ⊢
     (have tk:=za zx <| za zal <| za zS <| za zaS <| za zay <| zb Tryz.prog;have fx:=(⟨hbz,ht4,ht2,htk,hu1,hu2⟩:_∧_∧_∧_∧_∧_);repeat' (first|(refine hK _ ?_;clear hK K)|refine wa fun K hK=>?_|refine wb ?_|refine wc ?_ ?_|refine wl ?_|refine fun (nb:Bool) (hnb:nb=true→_)=>?_|exact we|refine fun (hc:_=(_:Bool))=>?_|clear hK K))
   ·have hlt2:l.length+1≤8:=by omega
    have hok:snpOk B=((snpB T).2&&((snpB T).1==B)):=by rw [snpOk,← hT]
    cases ho:snpOk B with
    | true=>
     rw [ho,if_pos rfl] at hf
     rw [ho] at hok
     have hc1:(!(snpB T).2||(snpB T).1 !=B)=false:=by
      have:=hok.symm
      rw [Bool.and_eq_true] at this
      simp only [Bool.or_eq_false_iff,Bool.not_eq_false']
      exact ⟨this.1,by simpa using this.2⟩
     (have tk:=za zx <| za zal <| za zS <| za zaS <| za zay <| zb Tryz.prog;have fx:=(⟨hc1,hlm⟩:_∧_);repeat' (first|(refine hK _ ?_;clear hK K)|refine wa fun K hK=>?_|refine wb ?_|refine wc ?_ ?_|refine wl ?_|refine fun (nb:Bool) (hnb:nb=true→_)=>?_|exact we|refine fun (hc:_=(_:Bool))=>?_|clear hK K))
     exact ⟨⟨(i+1,l++ [T]),by omega,by simp [hll],hf⟩,by simp only [List.map_append];simp only [AS.le,leT,leH,zc,AsgK,AV.le,AV.leL,AObj.le,inH,idsT,idsH,AV.ids,AV.idsL,AV.idsR,AObj.ids,lk,hget,go_sem,aeq,aeq.aeqF,simprocAttr,hwi]<;>and_intros<;>rfl,by simp;omega⟩
    | false=>
     rw [ho,if_neg (by decide)] at hf
     rw [ho] at hok
     have hc1:(!(snpB T).2||(snpB T).1 !=B)=true:=by
      have:=hok.symm
      rw [Bool.and_eq_false_iff] at this
      rcases this with h|h
      ·simp [h]
      ·simp only [Bool.or_eq_true,bne_iff_ne,ne_eq]
       exact .inr (by simpa using h)
     (have tk:=za zx <| za zal <| za zS <| za zaS <| za zay <| zb Tryz.prog;have fx:=hc1;repeat' (first|(refine hK _ ?_;clear hK K)|refine wa fun K hK=>?_|refine wb ?_|refine wc ?_ ?_|refine wl ?_|refine fun (nb:Bool) (hnb:nb=true→_)=>?_|exact we|refine fun (hc:_=(_:Bool))=>?_|clear hK K))
     rw [hf]
     rfl
  ·have hb:((plook d p (2+((i / 4:Nat):Int))).2 !=0)=true:=by simpa using he
   (have tk:=za zx <| za zal <| za zS <| za zaS <| za zay <| zb Tryz.prog;have fx:=(⟨hcmp,hq4,hw2,hb⟩:_∧_∧_∧_);repeat' (first|(refine hK _ ?_;clear hK K)|refine wa fun K hK=>?_|refine wb ?_|refine wc ?_ ?_|refine wl ?_|refine fun (nb:Bool) (hnb:nb=true→_)=>?_|exact we|refine fun (hc:_=(_:Bool))=>?_|clear hK K))
   rw [hf,if_pos he]
   rfl
 ·have hcmp:decide ((i:Int)<8)=false:=decide_eq_false (by omega)
  (have tk:=za zx <| za zal <| za zS <| za zaS <| za zay <| zb Tryz.prog;have fx:=hcmp;repeat' (first|(refine hK _ ?_;clear hK K)|refine wa fun K hK=>?_|refine wb ?_|refine wc ?_ ?_|refine wl ?_|refine fun (nb:Bool) (hnb:nb=true→_)=>?_|exact we|refine fun (hc:_=(_:Bool))=>?_|clear hK K))
  have him:i=8:=by omega
  subst him
  rw [if_pos hll.symm,List.take_of_length_le (by simp;omega),hf]
  rfl
@[go_sem] noncomputable def zjy:Ent Tryz.prog 127:= .m2 zq zw zmq
theorem div4i {i:Int} (h0:0≤i) (h:i<8):IntKind.i64.wrap (i.tdiv 4)=i / 4:=by
 rw [Int.tdiv_eq_ediv_of_nonneg h0];exact zg (by omega) (by omega)
theorem zjz (d:Disk) (p:Plan) (i:Int) (s:Snp) (hp:DP d p∧0≤s.id∧s.id≤4294967295∧s.name.length≤9223372036854775807):AC 87 [diskA d,planA p,.d (.int .i64 i),snpA s] (.tup [planA (setsnap d p i s).1,.d (.int .i64 (setsnap d p i s).2)]):=by
 obtain ⟨h,h0,h1,hn⟩:=hp
 refine fbod Tryz.func87 Tryz.ntmps87 (fun base=>?_)
 have hd1:=h.dok
 have hd2:=h.puts
 have hd3:=h.p
 by_cases hi:i<0∨8≤i
 ·have hdec:(decide (i<0)||decide (8≤i))=true:=by simpa using hi
  (have tk:=za zay <| za zao <| zb Tryz.prog;have fx:=hdec;repeat' (first|(refine hK _ ?_;clear hK K)|refine wa fun K hK=>?_|refine wb ?_|refine wc ?_ ?_|refine wl ?_|exact we|refine fun (hc:_=(_:Bool))=>?_|clear hK K))
  rw [setsnap,if_pos hi]
 have hdec:(decide (i<0)||decide (8≤i))=false:=by simpa using hi
 have hq:=div4i (i:=i) (by omega) (by omega)
 have hm:i.tmod 4=i % 4:=Int.tmod_eq_emod_of_nonneg (by omega)
 have hw1:IntKind.i64.wrap (2+i / 4)=2+i / 4:=zg (by omega) (by omega)
 have hw2:IntKind.i64.wrap (i % 4*16)=i % 4*16:=zg (by omega) (by omega)
 have hbl:(snpB s).1.length≤9223372036854775807:=by have:=znu s;omega
 cases ho:(snpB s).2 with
 |false=>
  (have tk:=za zay <| za zao <| zb Tryz.prog;have fx:=(⟨hdec,ho⟩:_∧_);repeat' (first|(refine hK _ ?_;clear hK K)|refine wa fun K hK=>?_|refine wb ?_|refine wc ?_ ?_|refine wl ?_|exact we|refine fun (hc:_=(_:Bool))=>?_|clear hK K))
  rw [setsnap,if_neg hi,if_pos ho]
 |true=>
  (have tk:=za zay <| za zao <| zb Tryz.prog;have fx:=(⟨hdec,ho,hq,hm,hw1,hw2⟩:_∧_∧_∧_∧_∧_);repeat' (first|(refine hK _ ?_;clear hK K)|refine wa fun K hK=>?_|refine wb ?_|refine wc ?_ ?_|refine wl ?_|exact we|refine fun (hc:_=(_:Bool))=>?_|clear hK K))
  rw [setsnap,if_neg hi,if_neg (by rw [ho];decide)]
@[go_sem] noncomputable def zt:Ent Tryz.prog 87:= .m4 zq zw (intT .i64) zfo zjz
open Go Go.Proofs
def cutL (s:Txt):Txt:=s.dropWhile (· ==0)
theorem zsE (s:Txt) (hs:s.length≤9223372036854775807):ACall Tryz.prog 303 0 [.d (.str s),.d (.int .u8 0)] [] (fun r _=>r= .d (.str (cutL s))):=by
 refine fbod Tryz.func303 Tryz.ntmps303 (fun base=>?_)
 (repeat' (first|(refine hK _ ?_;clear hK K)|refine wa fun K hK=>?_|refine wb ?_|refine wc ?_ ?_|exact we|refine fun (hc:_=(_:Bool))=>?_|clear hK K))
 refine zo (fun q: { t:Txt // t.length≤s.length∧cutL s=cutL t } =>⟨[(0,true,.d (.str q.1)),(1,true,.d (.int .u8 0))],[],some []⟩) (fun q=>q.1.length) ⟨s,Nat.le_refl _,rfl⟩ le0 (fun q=>?_)
 obtain ⟨t,hl,hf⟩:=q
 simp only at hl hf ⊢
 cases t with
 |nil=>
  have h0:decide ((0:Int)<(([]:Txt).length:Int))=false:=rfl
  (have fx:=h0;repeat' (first|(refine hK _ ?_;clear hK K)|refine wa fun K hK=>?_|refine wb ?_|refine wc ?_ ?_|exact we|refine fun (hc:_=(_:Bool))=>?_|clear hK K))
  rw [hf]
  rfl
 | cons c t=>
  have h0:decide ((0:Int)<((t.length+1:Nat):Int))=true:=decide_eq_true (by omega)
  have h1:List.drop 1 (c::t)=t:=rfl
  have hg0:List.getD (c::t) 0 0=c:=rfl
  simp only [List.length_cons] at hl
  by_cases hz:c=0
  ·have hz2:((c.toNat:Int)==0)=true:=by rw [hz];rfl
   (have fx:=(⟨h0,h1,hg0,hz2⟩:_∧_∧_∧_);repeat' (first|(refine hK _ ?_;clear hK K)|refine wa fun K hK=>?_|refine wb ?_|refine wc ?_ ?_|exact we|refine fun (hc:_=(_:Bool))=>?_|clear hK K))
   all_goals first|omega|skip
   exact ⟨⟨t,by omega,by rw [hf,hz];simp [cutL,List.dropWhile_cons]⟩,by simp only [AS.le,leT,leH,zc,AsgK,AV.le,AV.leL,AObj.le,inH,idsT,idsH,AV.ids,AV.idsL,AV.idsR,AObj.ids,lk,hget,go_sem,aeq,aeq.aeqF,simprocAttr],by simp⟩
  ·have hz2:((c.toNat:Int)==0)=false:=by
    rw [beq_eq_false_iff_ne]
    intro h
    exact hz (UInt8.toNat_inj.1 (by simpa using h))
   (have fx:=(⟨h0,h1,hg0,hz2⟩:_∧_∧_∧_);repeat' (first|(refine hK _ ?_;clear hK K)|refine wa fun K hK=>?_|refine wb ?_|refine wc ?_ ?_|exact we|refine fun (hc:_=(_:Bool))=>?_|clear hK K))
   have hcb:(c==0)=false:=by simpa using hz
   rw [hf,cutL,List.dropWhile_cons,hcb]
   rfl
@[go_sem] noncomputable def zeI:Ent Tryz.prog 303:= .ofL (consL strT (consL (zc6 (.d (.int .u8 0))) nilL)) (fun (s,_,_)=>s.length≤9223372036854775807) (fun (s,_,_)=> .d (.str (cutL s))) (fun (s,_,_) hp=>⟨rfl,zsE s hp⟩)
theorem zsF (s:Txt) (hs:s.length≤9223372036854775807):ACall Tryz.prog 304 0 [.d (.str s),.d (.int .u8 0)] [] (fun r _=>r= .d (.str (cutZ s))):=by
 refine fbod Tryz.func304 Tryz.ntmps304 (fun base=>?_)
 (repeat' (first|(refine hK _ ?_;clear hK K)|refine wa fun K hK=>?_|refine wb ?_|refine wc ?_ ?_|exact we|refine fun (hc:_=(_:Bool))=>?_|clear hK K))
 refine zo (fun q: { t:Txt // t.length≤s.length∧cutZ s=cutZ t } =>⟨[(0,true,.d (.str q.1)),(1,true,.d (.int .u8 0))],[],some []⟩) (fun q=>q.1.length) ⟨s,Nat.le_refl _,rfl⟩ le0 (fun q=>?_)
 obtain ⟨t,hl,hf⟩:=q
 simp only at hl hf ⊢
 rcases List.eq_nil_or_concat t with rfl|⟨u,c,rfl⟩
 ·have h0:decide ((0:Int)<(([]:Txt).length:Int))=false:=rfl
  (have fx:=h0;repeat' (first|(refine hK _ ?_;clear hK K)|refine wa fun K hK=>?_|refine wb ?_|refine wc ?_ ?_|exact we|refine fun (hc:_=(_:Bool))=>?_|clear hK K))
  rw [hf]
  rfl
 ·rw [List.concat_eq_append] at hl hf ⊢
  have hln:(u++ [c]).length=u.length+1:=by simp
  have h0:decide ((0:Int)<((u.length+1:Nat):Int))=true:=decide_eq_true (by omega)
  have hw:IntKind.i64.wrap (((u.length+1:Nat):Int) - 1)=(u.length:Int):=by rw [zg (by omega) (by omega)];omega
  have h1:List.take u.length (u++ [c])=u:=by simp
  have hg0:List.getD (u++ [c]) u.length 0=c:=by simp
  by_cases hz:c=0
  ·have hz2:((c.toNat:Int)==0)=true:=by rw [hz];rfl
   (have fx:=(⟨hln,h0,hw,@Int.toNat_natCast,h1,hg0,hz2⟩:_∧_∧_∧_∧_∧_∧_);repeat' (first|(refine hK _ ?_;clear hK K)|refine wa fun K hK=>?_|refine wb ?_|refine wc ?_ ?_|exact we|refine fun (hc:_=(_:Bool))=>?_|clear hK K))
   all_goals first|omega|skip
   exact ⟨⟨u,by omega,by rw [hf,hz,zhx]⟩,by simp only [AS.le,leT,leH,zc,AsgK,AV.le,AV.leL,AObj.le,inH,idsT,idsH,AV.ids,AV.idsL,AV.idsR,AObj.ids,lk,hget,go_sem,aeq,aeq.aeqF,simprocAttr],by simp⟩
  ·have hz2:((c.toNat:Int)==0)=false:=by
    rw [beq_eq_false_iff_ne]
    intro h
    exact hz (UInt8.toNat_inj.1 (by simpa using h))
   (have fx:=(⟨hln,h0,hw,@Int.toNat_natCast,h1,hg0,hz2⟩:_∧_∧_∧_∧_∧_∧_);repeat' (first|(refine hK _ ?_;clear hK K)|refine wa fun K hK=>?_|refine wb ?_|refine wc ?_ ?_|exact we|refine fun (hc:_=(_:Bool))=>?_|clear hK K))
   all_goals first|omega|skip
   rw [hf,zf1 _ _ hz]
@[go_sem] noncomputable def zeJ:Ent Tryz.prog 304:= .ofL (consL strT (consL (zc6 (.d (.int .u8 0))) nilL)) (fun (s,_,_)=>s.length≤9223372036854775807) (fun (s,_,_)=> .d (.str (cutZ s))) (fun (s,_,_) hp=>⟨rfl,zsF s hp⟩)
theorem znv (s:Txt):(cutZ s).length≤s.length:=by
 have h:∀l:Txt,(l.dropWhile (· ==0)).length≤l.length:=fun l=>List.IsSuffix.length_le (List.dropWhile_suffix _)
 unfold cutZ
 rw [List.length_reverse]
 refine Nat.le_trans (h _) ?_
 rw [List.length_reverse]
 exact Nat.le_refl _
theorem zt6 (s:Txt) (hs:s.length≤9223372036854775807):ACall Tryz.prog 289 0 [.d (.str s),.d (.str [0])] [] (fun r _=>r= .d (.str (cutL (cutZ s)))):=by
 refine fbod Tryz.func289 Tryz.ntmps289 (fun base=>?_)
 have hcl:=znv s
 cases s with
 |nil=>
  (have tk:=za zeI <| za zeJ <| zb Tryz.prog;repeat' (first|(refine hK _ ?_;clear hK K)|refine wa fun K hK=>?_|refine wb ?_|refine wc ?_ ?_|exact we|refine fun (hc:_=(_:Bool))=>?_|clear hK K))
  rfl
 |cons c s=>
  have hb:(c::s==([]:Txt))=false:=rfl
  have hb2:(([0]:Txt)==([]:Txt))=false:=rfl
  (have tk:=za zeI <| za zeJ <| zb Tryz.prog;have fx:=(⟨hb,hb2⟩:_∧_);repeat' (first|(refine hK _ ?_;clear hK K)|refine wa fun K hK=>?_|refine wb ?_|refine wc ?_ ?_|exact we|refine fun (hc:_=(_:Bool))=>?_|clear hK K))
  all_goals first|omega|decide|rfl|(simp only [List.length_cons] at hs;omega)|skip
@[go_sem] noncomputable def zdF:Ent Tryz.prog 289:= .ofL (consL strT (consL (zc6 (.d (.str [0]))) nilL)) (fun (s,_,_)=>s.length≤9223372036854775807) (fun (s,_,_)=> .d (.str (cutL (cutZ s)))) (fun (s,_,_) hp=>⟨rfl,zt6 s hp⟩)
theorem zkS (s:Txt) (hs:s.length≤9223372036854775807):ACall Tryz.prog 310 0 [.d (.str s),.d (.str [0])] [] (fun r _=>r= .d (.str (cutZ s))):=by
 refine fbod Tryz.func310 Tryz.ntmps310 (fun base=>?_)
 cases s with
 |nil=>
  (have tk:=za zeI <| za zeJ <| zb Tryz.prog;repeat' (first|(refine hK _ ?_;clear hK K)|refine wa fun K hK=>?_|refine wb ?_|refine wc ?_ ?_|exact we|refine fun (hc:_=(_:Bool))=>?_|clear hK K))
  rfl
 |cons c s=>
  have hb:(c::s==([]:Txt))=false:=rfl
  have hb2:(([0]:Txt)==([]:Txt))=false:=rfl
  (have tk:=za zeI <| za zeJ <| zb Tryz.prog;have fx:=(⟨hb,hb2⟩:_∧_);repeat' (first|(refine hK _ ?_;clear hK K)|refine wa fun K hK=>?_|refine wb ?_|refine wc ?_ ?_|exact we|refine fun (hc:_=(_:Bool))=>?_|clear hK K))
  all_goals first|omega|decide|rfl|(simp only [List.length_cons] at hs;omega)|skip
@[go_sem] noncomputable def zdm:Ent Tryz.prog 310:= .ofL (consL strT (consL (zc6 (.d (.str [0]))) nilL)) (fun (s,_,_)=>s.length≤9223372036854775807) (fun (s,_,_)=> .d (.str (cutZ s))) (fun (s,_,_) hp=>⟨rfl,zkS s hp⟩)
theorem zqN (s:Txt) (hs:s.length≤9223372036854775807):AC 290 [.d (.str s)] (.tup [.d (.str (zdy s).1),.d (.int .i64 (zdy s).2)]):=by
 refine fbod Tryz.func290 Tryz.ntmps290 (fun base=>?_)
 have hcl:=znv s
 by_cases h8:s.length=8
 ·have hb:((s.length:Int) !=8)=false:=by rw [h8];rfl
  have htn:zdy s=if zax (cutZ s) then (cutZ s,0) else ([],19):=by rw [zdy,if_neg (fun h=>h h8)]
  cases hn:zax (cutZ s) with
  |true=>
   (have tk:=za zdm <| za zex <| zb Tryz.prog;have fx:=(⟨hb,hn⟩:_∧_);repeat' (first|(refine hK _ ?_;clear hK K)|refine wa fun K hK=>?_|refine wb ?_|refine wc ?_ ?_|exact we|refine fun (hc:_=(_:Bool))=>?_|clear hK K))
   all_goals first|omega|rw [htn,hn];rfl
  |false=>
   (have tk:=za zdm <| za zex <| zb Tryz.prog;have fx:=(⟨hb,hn⟩:_∧_);repeat' (first|(refine hK _ ?_;clear hK K)|refine wa fun K hK=>?_|refine wb ?_|refine wc ?_ ?_|exact we|refine fun (hc:_=(_:Bool))=>?_|clear hK K))
   all_goals first|omega|rw [htn,hn];rfl
 ·have hb:((s.length:Int) !=8)=true:=by simp;omega
  (have tk:=za zdm <| za zex <| zb Tryz.prog;have fx:=hb;repeat' (first|(refine hK _ ?_;clear hK K)|refine wa fun K hK=>?_|refine wb ?_|refine wc ?_ ?_|exact we|refine fun (hc:_=(_:Bool))=>?_|clear hK K))
  rw [zdy,if_pos h8]
@[go_sem] noncomputable def zmt:Ent Tryz.prog 290:= .m1 strT zqN
theorem zqO (n:Int) (hp:0≤n∧n≤140737488355328):AC 270 [.d (.int .i64 n)] (.d (.str (List.replicate n.toNat 0))):=by
 obtain ⟨h0,h1⟩:=hp
 refine fbod Tryz.func270 Tryz.ntmps270 (fun base=>?_)
 (have tk:=za za2 <| zb Tryz.prog;repeat' (first|(refine hK _ ?_;clear hK K)|refine wa fun K hK=>?_|refine wb ?_|refine wc ?_ ?_|exact we|clear hK K))
@[go_sem] noncomputable def zhM:Ent Tryz.prog 270:= .m1 (intT .i64) zqO
theorem zmu (b:Txt) (hb:b.length=16):AC 250 [.d (.str b)] (snpA (snpR b)):=by
 refine fbod Tryz.func250 Tryz.ntmps250 (fun base=>?_)
 have ht4:=zcs (s:=b) (z:=4) 4 rfl (by omega) (by omega) (by omega)
 have ht2:=zcs (s:=b.drop 4) (z:=2) 2 rfl (by omega) (by omega) (by rw [List.length_drop];omega)
 have hL2:(List.drop 8 b).length≤9223372036854775807:=by rw [List.length_drop];omega
 have h1:=zbw (l:=b.take 4) (i:=4) (by rw [List.length_take];omega)
 have h2:=zbw (l:=(b.drop 4).take 2) (i:=2) (by rw [List.length_take];omega)
 have hu1:IntKind.u32.wrap ((takeN (b.take 4):Nat):Int)=((takeN (b.take 4):Nat):Int):=zeD (by omega) (by omega)
 have hu2:IntKind.i64.wrap ((takeN ((b.drop 4).take 2):Nat):Int)=((takeN ((b.drop 4).take 2):Nat):Int):=zg (by omega) (by omega)
 have hz0:List.drop (Int.toNat 0) b=b:=rfl
 have hz4:List.drop (Int.toNat 4) b=List.drop 4 b:=rfl
 have hln:((b.length:Nat):Int)=16:=by omega
 (have tk:=za zmt <| za zek <| zb Tryz.prog;have fx:=(⟨hz0,hz4,ht4,ht2,hu1,hu2⟩:_∧_∧_∧_∧_∧_);repeat' (first|(refine hK _ ?_;clear hK K)|refine wa fun K hK=>?_|refine wb ?_|refine wc ?_ ?_|exact we|clear hK K))
 all_goals first|omega|rfl|skip
@[go_sem] noncomputable def zbn:Ent Tryz.prog 250:= .m1 strT zmu
def wsnp (s:Snp):Txt:=if s.id=0∧s.l1=0∧s.name= [] then z16 else putN s.id.toNat 4++putN (IntKind.u64.wrap s.l1).toNat 2++ [0,0]++(nameS s.name).1
theorem zqP {s:Snp} (h:(snpB s).2=true):wsnp s=(snpB s).1:=by
 unfold snpB at h ⊢
 unfold wsnp
 split
 ·rfl
 rename_i h1
 rw [if_neg h1] at h
 split
 ·rename_i h2;rw [if_pos h2] at h;cases h
 ·rename_i h2
  simp only [not_or,Bool.not_eq_false] at h2
  have hk:=hostOk_iff.1 h2.2.2
  rw [zad (by omega) (by omega)]
theorem zqQ {s:Snp} (h0:0≤s.id) (hz:¬(s.id=0∧s.l1=0∧s.name= [])):(zax s.name&&decide (0<s.id)&&zM s.l1)=(snpB s).2:=by
 unfold snpB
 rw [if_neg hz]
 split
 ·rename_i h2
  rcases h2 with h2|h2|h2
  ·rw [h2];simp
  ·rw [h2];simp
  ·rw [h2];simp
 ·rename_i h2
  simp only [not_or,Bool.not_eq_false] at h2
  have:0<s.id:=by omega
  simp [h2.2.1,h2.2.2,this]
theorem zkT (s:Snp) (hp:0≤s.id∧s.id≤4294967295∧s.name.length≤9223372036854775807):AC 223 [snpA s] (.tup [.d (.str (wsnp s)),.d (.bool (snpB s).2)]):=by
 obtain ⟨h0,h1,hn⟩:=hp
 refine fbod Tryz.func223 Tryz.ntmps223 (fun base=>?_)
 by_cases hz:s.id=0∧s.l1=0∧s.name= []
 ·have hb:(s.id==0&&(s.l1==0&&s.name== []))=true:=by simpa using hz
  have h16:List.replicate (Int.toNat 16) (0:UInt8)=z16:=rfl
  (have tk:=za zhM <| za zhj <| za zce <| za zbL <| zb Tryz.prog;have fx:=(⟨hb,h16⟩:_∧_);repeat' (first|(refine hK _ ?_;clear hK K)|refine va fun K hK=>?_|refine vb ?_|refine wc ?_ ?_|exact we|refine fun (hc:_=(_:Bool))=>?_|clear hK K))
  rw [wsnp,snpB,if_pos hz,if_pos hz]
  rfl
 have hb:(s.id==0&&(s.l1==0&&s.name== []))=false:=by rw [Bool.eq_false_iff];simpa using hz
 have hw:IntKind.u64.wrap s.id=s.id:=zad h0 (by omega)
 have hw2:0≤IntKind.u64.wrap s.l1∧IntKind.u64.wrap s.l1<18446744073709551616:=by rw [IntKind.wrap_u64];omega
 have hp1:=zP s.id.toNat 4
 have hp2:=zP (IntKind.u64.wrap s.l1).toNat 2
 have hfl:=zqQ h0 hz
 have hnz:((nameS s.name).2==0)=zax s.name:=by
  cases h:zax s.name with
  |true=>rw [(zel h).2.1];rfl
  |false=>rw [nameS,if_neg (by rw [h];decide)];rfl
 have hnl:(nameS s.name).1.length≤8:=by
  cases h:zax s.name with
  |true=>rw [(zel h).1];exact Nat.le_refl _
  |false=>rw [nameS,if_neg (by rw [h];decide)];exact Nat.zero_le _
 (have tk:=za zhM <| za zhj <| za zce <| za zbL <| zb Tryz.prog;have fx:=(⟨hb,hw,hnz,hfl,@zhv,@ziA⟩:_∧_∧_∧_∧_∧_);repeat' (first|(refine hK _ ?_;clear hK K)|refine va fun K hK=>?_|refine vb ?_|refine wc ?_ ?_|exact we|refine fun (hc:_=(_:Bool))=>?_|clear hK K))
 ·simp only [List.length_append];omega
 ·simp only [List.length_append,List.length_cons,List.length_nil];omega
 ·rw [Bool.not_not,hfl,wsnp,if_neg hz]
@[go_sem] noncomputable def zaw:Ent Tryz.prog 223:= .m1 zfo zkT
def sgetA (d:Disk) (p:Plan) (a o:Int):Snp×Int:=
 if (plook d p a).2≠0 then (snp0,(plook d p a).2)
 else if snpOk (((plook d p a).1.take (o+16).toNat).drop o.toNat) then (snpT (((plook d p a).1.take (o+16).toNat).drop o.toNat),0) else (snp0,14)
theorem cutLZ {b:Txt} :(cutL (cutZ b)= [])↔ ∀c∈b,c=0:=by
 have h1:∀l:Txt,l.dropWhile (· ==0)= []↔ ∀c∈l,c=0:=by
  intro l
  induction l with
  |nil=>simp
  | cons x l ih=>
   rw [List.dropWhile_cons]
   by_cases hx:x=0
   ·subst hx;simp [ih]
   ·have:(x==0)=false:=by simpa using hx
    simp [this,hx]
 have h2:∀ (l:Txt) (c:UInt8),c∈l→c≠0→c∈cutZ l:=by
  intro l
  induction hn:l.length generalizing l with
  |zero=>intro c hc;rw [List.eq_nil_of_length_eq_zero hn] at hc;cases hc
  | succ n ih=>
   intro c hc h0
   rcases List.eq_nil_or_concat l with rfl|⟨u,x,rfl⟩
   ·cases hc
   ·rw [List.concat_eq_append] at hn hc ⊢
    by_cases hx:x=0
    ·subst hx
     rw [zhx]
     refine ih u (by simpa using hn) c ?_ h0
     rcases List.mem_append.1 hc with h|h
     ·exact h
     ·exact absurd (by simpa using h) h0
    ·rw [zf1 _ _ hx];exact hc
 have h3:∀ (l:Txt) (c:UInt8),c∈cutZ l→c∈l:=by
  intro l c hc
  unfold cutZ at hc
  rw [List.mem_reverse] at hc
  exact List.mem_reverse.1 ((List.dropWhile_suffix _).subset hc)
 unfold cutL
 rw [h1]
 constructor
 ·intro h c hc
  refine Classical.byContradiction (fun h0=>h0 (h c (h2 _ _ hc h0)))
 ·intro h c hc
  exact h c (h3 _ _ hc)
theorem zt7 {b:Txt} (h:b.length=16):(cutL (cutZ b)== [])=(b==z16):=by
 rw [Bool.eq_iff_iff,beq_iff_eq,beq_iff_eq,cutLZ]
 constructor
 ·intro hh
  rw [List.eq_replicate_of_mem hh,h]
  rfl
 ·intro hh c hc
  rw [hh] at hc
  exact List.eq_of_mem_replicate hc
theorem zoN (d:Disk) (p:Plan) (a:Int) (o:Int) (h:DP d p) (h0:0≤o) (h1:o≤48):ACall Tryz.prog 249 0 [diskA d,planA p,.agg [.d (.int .i64 a),.d (.int .i64 o),.d (.int .i64 16),.fn (.func 223) [] [],.fn (.func 250) [] []]] [] (fun r _=>r= .tup [snpA (sgetA d p a o).1,.d (.int .i64 (sgetA d p a o).2)]):=by
 refine fbod Tryz.func249 Tryz.ntmps249 (fun base=>?_)
 have h2:=h.dok
 have h3:=h.pok
 have h4:=h.plen
 have hw:IntKind.i64.wrap (o+16)=o+16:=zg (by omega) (by omega)
 obtain ⟨L,hL⟩:∃L,L=plook d p a:=⟨_,rfl⟩
 have hsg:sgetA d p a o=if L.2≠0 then (snp0,L.2) else if snpOk ((L.1.take (o+16).toNat).drop o.toNat) then (snpT ((L.1.take (o+16).toNat).drop o.toNat),0) else (snp0,14):=by rw [sgetA,hL]
 by_cases he:L.2=0
 ·have hb:(L.2 !=0)=false:=by simpa using he
  have h64:=zcA h (by rw [← hL];exact he)
  rw [← hL] at h64
  rw [if_neg (by simpa using he)] at hsg
  obtain ⟨B,hB⟩:∃B,B=(L.1.take (o+16).toNat).drop o.toNat:=⟨_,rfl⟩
  have hB16:B.length=16:=by rw [hB,List.length_drop,List.length_take];omega
  rw [← hB] at hsg
  obtain ⟨T,hT⟩:∃T,T=snpT B:=⟨_,rfl⟩
  obtain ⟨g1,g2,g3,g4,g5⟩:=zjq B
  rw [← hT] at hsg g1 g2 g3 g4 g5
  have hBl:B.length≤9223372036854775807:=by omega
  have hok:snpOk B=((snpB T).2&&((snpB T).1==B)):=by rw [snpOk,← hT]
  have hok2:snpOk B=((snpB T).2&&(wsnp T==B)):=by
   rw [hok]
   cases hf:(snpB T).2 with
   |true=>rw [zqP hf]
   |false=>rfl
  have hcl:=zt7 hB16
  (have tk:=za zW <| za zdF <| za zbn <| za zaw <| zb Tryz.prog;have fx:=(⟨hL.symm,hb,hw,hB.symm⟩:_∧_∧_∧_);repeat' ((fail_if_success refine hds 8 (by rfl) ?_);first|(refine hK _ ?_;clear hK K)|refine wa fun K hK=>?_|refine wb ?_|refine wc ?_ ?_|exact we|refine fun (hc:_=(_:Bool))=>?_|clear hK K))
  ·have hBz:B≠z16:=by
    intro hh
    have:(cutL (cutZ B) != [])=false:=by rw [bne,hcl,hh];rfl
    rw [hc] at this
    cases this
   have hTR:snpR B=T:=by rw [hT,snpT,if_neg hBz]
   have hTn:T.name.length≤9223372036854775807:=by omega
   have hcd:(!(snpB T).2||wsnp T !=B)= !snpOk B:=by rw [hok2,Bool.not_and];rfl
   cases ho:snpOk B with
   |true=>
    rw [ho] at hcd hsg
    (have tk:=za zW <| za zdF <| za zbn <| za zaw <| zb Tryz.prog;have fx:=(⟨hTR,hcd⟩:_∧_);repeat' (first|(refine hK _ ?_;clear hK K)|refine wa fun K hK=>?_|refine wb ?_|refine wc ?_ ?_|exact we|refine fun (hc:_=(_:Bool))=>?_|clear hK K))
    rw [hsg]
    rfl
   |false=>
    rw [ho] at hcd hsg
    (have tk:=za zW <| za zdF <| za zbn <| za zaw <| zb Tryz.prog;have fx:=(⟨hTR,hcd⟩:_∧_);repeat' (first|(refine hK _ ?_;clear hK K)|refine wa fun K hK=>?_|refine wb ?_|refine wc ?_ ?_|exact we|refine fun (hc:_=(_:Bool))=>?_|clear hK K))
    rw [hsg]
    rfl
  ·have hBz:B=z16:=by
    have:(B==z16)=true:=by
     rw [← hcl]
     rw [bne,Bool.not_eq_false'] at hc
     exact hc
    simpa using this
   have hT0:T=⟨0,0,[]⟩:=by rw [hT,snpT,if_pos hBz];rfl
   have hcd:(!(snpB T).2||wsnp T !=B)= !snpOk B:=by rw [hok2,Bool.not_and];rfl
   rw [hT0] at hcd hsg
   cases ho:snpOk B with
   |true=>
    rw [ho] at hcd hsg
    (have tk:=za zW <| za zdF <| za zbn <| za zaw <| zb Tryz.prog;have fx:=hcd;repeat' (first|(refine hK _ ?_;clear hK K)|refine wa fun K hK=>?_|refine wb ?_|refine wc ?_ ?_|exact we|refine fun (hc:_=(_:Bool))=>?_|clear hK K))
    rw [hsg]
    rfl
   |false=>
    rw [ho] at hcd hsg
    (have tk:=za zW <| za zdF <| za zbn <| za zaw <| zb Tryz.prog;have fx:=hcd;repeat' (first|(refine hK _ ?_;clear hK K)|refine wa fun K hK=>?_|refine wb ?_|refine wc ?_ ?_|exact we|refine fun (hc:_=(_:Bool))=>?_|clear hK K))
    rw [hsg]
    rfl
 ·have hb:(L.2 !=0)=true:=by simpa using he
  (have tk:=za zW <| za zdF <| za zbn <| za zaw <| zb Tryz.prog;have fx:=(⟨hL.symm,hb⟩:_∧_);repeat' (first|(refine hK _ ?_;clear hK K)|refine wa fun K hK=>?_|refine wb ?_|refine wc ?_ ?_|exact we|refine fun (hc:_=(_:Bool))=>?_|clear hK K))
  rw [hsg,if_pos he]
  rfl
@[go_sem] noncomputable def zaY:Ent Tryz.prog 249:= .ofL (consL zq (consL zw (consL (aggT (consL (intT .i64) (consL (intT .i64) (consL (zc6 (.d (.int .i64 16))) (consL (fnT 223 nilL) (consL (fnT 250 nilL) nilL))))) (fun p=>p) (fun p=>p) (fun _=>rfl)) nilL))) (fun (d,p,(a,o,_,_,_,_),_)=>(DP d p)∧(0≤o)∧(o≤48)) (fun (d,p,(a,o,_,_,_,_),_)=> .tup [snpA (sgetA d p a o).1,.d (.int .i64 (sgetA d p a o).2)]) (fun (d,p,(a,o,_,_,_,_),_) hp=>⟨rfl,zoN d p a o hp.1 hp.2.1 hp.2.2⟩)
theorem zqR (i:Int) (hp:0≤i∧i<8):AC 194 [.d (.int .i64 i)] (.agg [.d (.int .i64 (2+i / 4)),.d (.int .i64 (i % 4*16)),.d (.int .i64 16),.fn (.func 223) [] [],.fn (.func 250) [] []]):=by
 obtain ⟨h0,h1⟩:=hp
 refine fbod Tryz.func194 Tryz.ntmps194 (fun base=>?_)
 have hq:=div4i h0 h1
 have hm:i.tmod 4=i % 4:=Int.tmod_eq_emod_of_nonneg h0
 have hw1:IntKind.i64.wrap (2+i / 4)=2+i / 4:=zg (by omega) (by omega)
 have hw2:IntKind.i64.wrap (i % 4*16)=i % 4*16:=zg (by omega) (by omega)
 (have fx:=(⟨hq,hm,hw1,hw2⟩:_∧_∧_∧_);repeat' (first|(refine hK _ ?_;clear hK K)|refine wa fun K hK=>?_|refine wb ?_|refine wc ?_ ?_|exact we|clear hK K))
@[go_sem] noncomputable def zaL:Ent Tryz.prog 194:= .m1 (intT .i64) zqR
theorem zkU {d:Disk} {p:Plan} {i:Nat} :sgetA d p (2+(i:Int) / 4) ((i:Int) % 4*16)=if (plook d p (2+((i / 4:Nat):Int))).2≠0 then (snp0,(plook d p (2+((i / 4:Nat):Int))).2) else if snpOk (slotB (plook d p (2+((i / 4:Nat):Int))).1 i) then (snpT (slotB (plook d p (2+((i / 4:Nat):Int))).1 i),0) else (snp0,14):=by
 have e1:(2+(i:Int) / 4)=2+((i / 4:Nat):Int):=by omega
 have e2:((i:Int) % 4*16+16).toNat=(i % 4+1)*16:=by omega
 have e3:((i:Int) % 4*16).toNat=i % 4*16:=by omega
 unfold sgetA slotB
 rw [e1,e2,e3]
theorem zoO (d:Disk) (p:Plan) (h:DP d p):ACall Tryz.prog 193 0 [diskA d,planA p,.d (.int .i64 8),.fn (.func 194) [] []] [] (fun r _=>r= .tup [.d (.sl 3 ((snaps d p).1.map snpD)),.d (.int .i64 (snaps d p).2)]):=by
 refine fbod Tryz.func193 Tryz.ntmps193 (fun base=>?_)
 (have tk:=za zaY <| za zaL <| zb Tryz.prog;repeat' (first|(refine hK _ ?_;clear hK K)|refine wa fun K hK=>?_|refine wb ?_|refine wc ?_ ?_|refine fun (nb:Bool) (hnb:nb=true→_)=>?_|exact we|refine fun (hc:_=(_:Bool))=>?_|clear hK K))
 refine zcd 10 3 rfl ?_
 simp only [fresh,top,hget, ↓reduceIte]
 refine zo (fun q: { q:Nat×List Snp // q.1≤8∧q.2.length=q.1∧snaps d p=zbM d p (8 - q.1) q.1 q.2 } =>⟨[(3,true,.fn (.func 194) [] []),(4,true,.vp 0 0),(5,true,.vp 1 0),(10,true,.osl 2 3 q.1.1 0 q.1.1),(14,true,.d (.int .i64 8)),(15,true,.d (.int .i64 q.1.1))],[(2,.arr 3 (q.1.2.map snpD)),(1,(.var [.d (.sl 1 (p.targets.map intD)),.d (.sl 1 (p.texts.map strD))])),(0,(.var [.d (.str d.data),.d (.sl 2 (d.cache.map putD)),.d (.int .i64 d.fuse),.d (.bool d.off),.d (.sl 1 (d.bad.map intD))]))],some []⟩) (fun q=>8 - q.1.1) ⟨(0,[]),Nat.zero_le 8,rfl,rfl⟩ le1 (fun q=>?_)
 obtain ⟨⟨i,l⟩,hi,hll,hf⟩:=q
 simp only at hi hll hf ⊢
 rcases Nat.lt_or_ge i 8 with hlt|hge
 ·have hcmp:decide ((i:Int)<8)=true:=decide_eq_true (by omega)
  have hwi:=zp (i:=i) (by omega)
  have hlm:(l.map snpD).length=i:=by rw [List.length_map,hll]
  have hsg:=zkU (d:=d) (p:=p) (i:=i)
  rw [ze3 hlt,zbM] at hf
  obtain ⟨S,hS⟩:∃S,S=sgetA d p (2+(i:Int) / 4) ((i:Int) % 4*16):=⟨_,rfl⟩
  rw [← hS] at hsg
  by_cases he:(plook d p (2+((i / 4:Nat):Int))).2=0
  ·rw [if_neg (by simpa using he)] at hf hsg
   cases ho:snpOk (slotB (plook d p (2+((i / 4:Nat):Int))).1 i) with
   |true=>
    rw [ho,if_pos rfl] at hf hsg
    have hb:(S.2 !=0)=false:=by rw [hsg];rfl
    have hf2:snaps d p=zbM d p (8 - (i+1)) (i+1) (l++ [S.1]):=by rw [hf,hsg]
    (have tk:=za zaY <| za zaL <| zb Tryz.prog;have fx:=(⟨hcmp,hS.symm,hb,hlm⟩:_∧_∧_∧_);repeat' (first|(refine hK _ ?_;clear hK K)|refine va fun K hK=>?_|refine vb ?_|refine wc ?_ ?_|refine fun (nb:Bool) (hnb:nb=true→_)=>?_|exact we|refine fun (hc:_=(_:Bool))=>?_|clear hK K))
    all_goals first|omega|skip
    exact ⟨⟨(i+1,l++ [S.1]),by omega,by simp [hll],hf2⟩,by simp only [List.map_append];simp only [AS.le,leT,leH,zc,AsgK,AV.le,AV.leL,AObj.le,inH,idsT,idsH,AV.ids,AV.idsL,AV.idsR,AObj.ids,lk,hget,go_sem,aeq,aeq.aeqF,simprocAttr,hwi]<;>and_intros<;>rfl,by simp;omega⟩
   |false=>
    rw [ho,if_neg (by decide)] at hf hsg
    have hb:(S.2 !=0)=true:=by rw [hsg];rfl
    (have tk:=za zaY <| za zaL <| zb Tryz.prog;have fx:=(⟨hcmp,hS.symm,hb⟩:_∧_∧_);repeat' (first|(refine hK _ ?_;clear hK K)|refine va fun K hK=>?_|refine vb ?_|refine wc ?_ ?_|refine fun (nb:Bool) (hnb:nb=true→_)=>?_|exact we|refine fun (hc:_=(_:Bool))=>?_|clear hK K))
    all_goals first|omega|skip
    rw [hf,hsg]
    rfl
  ·rw [if_pos he] at hf hsg
   have hb:(S.2 !=0)=true:=by rw [hsg];simpa using he
   (have tk:=za zaY <| za zaL <| zb Tryz.prog;have fx:=(⟨hcmp,hS.symm,hb⟩:_∧_∧_);repeat' (first|(refine hK _ ?_;clear hK K)|refine va fun K hK=>?_|refine vb ?_|refine wc ?_ ?_|refine fun (nb:Bool) (hnb:nb=true→_)=>?_|exact we|refine fun (hc:_=(_:Bool))=>?_|clear hK K))
   all_goals first|omega|skip
   rw [hf,hsg]
   rfl
 ·have hcmp:decide ((i:Int)<8)=false:=decide_eq_false (by omega)
  (have tk:=za zaY <| za zaL <| zb Tryz.prog;have fx:=hcmp;repeat' (first|(refine hK _ ?_;clear hK K)|refine wa fun K hK=>?_|refine wb ?_|refine wc ?_ ?_|refine fun (nb:Bool) (hnb:nb=true→_)=>?_|exact we|refine fun (hc:_=(_:Bool))=>?_|clear hK K))
  have him:i=8:=by omega
  subst him
  rw [if_pos hll.symm,List.take_of_length_le (by simp;omega),hf]
  rfl
@[go_sem] noncomputable def zkV:Ent Tryz.prog 193:= .ofL (consL zq (consL zw (consL (zc6 (.d (.int .i64 8))) (consL (fnT 194 nilL) nilL)))) (fun (d,p,_,_,_)=>DP d p) (fun (d,p,_,_,_)=> .tup [.d (.sl 3 ((snaps d p).1.map snpD)),.d (.int .i64 (snaps d p).2)]) (fun (d,p,_,_,_) hp=>⟨rfl,zoO d p hp⟩)
theorem zsG (d:Disk) (p:Plan) (h:DP d p):AC 125 [diskA d,planA p] (.tup [.d (.sl 3 ((snaps d p).1.map snpD)),.d (.int .i64 (snaps d p).2)]):=by
 refine fbod Tryz.func125 Tryz.ntmps125 (fun base=>?_)
 (have tk:=za zkV <| zb Tryz.prog;repeat' (first|(refine hK _ ?_;clear hK K)|refine wa fun K hK=>?_|refine wb ?_|refine wc ?_ ?_|refine fun (nb:Bool) (hnb:nb=true→_)=>?_|exact we|clear hK K))
@[go_sem] noncomputable def zf8:Ent Tryz.prog 125:= .m2 zq zw zsG
theorem zoP (d:Disk) (p:Plan) (i:Int) (s:Snp) (hp:DP d p∧0≤s.id∧s.id≤4294967295∧s.name.length≤9223372036854775807):AC 157 [diskA d,planA p,.d (.int .i64 i),snpA s] (.tup [planA (setsnap d p i s).1,.d (.int .i64 (setsnap d p i s).2)]):=by
 obtain ⟨h,h0,h1,hn⟩:=hp
 refine fbod Tryz.func157 Tryz.ntmps157 (fun base=>?_)
 have hd1:=h.dok
 have hd2:=h.puts
 have hd3:=h.p
 by_cases hi:i<0∨8≤i
 ·have hdec:(decide (i<0)||decide (8≤i))=true:=by simpa using hi
  (have tk:=za zaw <| za zaL <| za zaC <| zb Tryz.prog;have fx:=hdec;repeat' (first|(refine hK _ ?_;clear hK K)|refine wa fun K hK=>?_|refine wb ?_|refine wc ?_ ?_|exact we|refine fun (hc:_=(_:Bool))=>?_|clear hK K))
  rw [setsnap,if_pos hi]
 have hdec:(decide (i<0)||decide (8≤i))=false:=by simpa using hi
 cases ho:(snpB s).2 with
 |false=>
  (have tk:=za zaw <| za zaL <| za zaC <| zb Tryz.prog;have fx:=(⟨hdec,ho⟩:_∧_);repeat' (first|(refine hK _ ?_;clear hK K)|refine wa fun K hK=>?_|refine wb ?_|refine wc ?_ ?_|exact we|refine fun (hc:_=(_:Bool))=>?_|clear hK K))
  rw [setsnap,if_neg hi,if_pos ho]
 |true=>
  have hws:=zqP ho
  have hbl:(snpB s).1.length≤9223372036854775807:=by have:=znu s;omega
  (have tk:=za zaw <| za zaL <| za zaC <| zb Tryz.prog;have fx:=(⟨hdec,ho,hws⟩:_∧_∧_);repeat' (first|(refine hK _ ?_;clear hK K)|refine wa fun K hK=>?_|refine wb ?_|refine wc ?_ ?_|exact we|refine fun (hc:_=(_:Bool))=>?_|clear hK K))
  all_goals first|omega|skip
  rw [setsnap,if_neg hi,if_neg (by rw [ho];decide)]
@[go_sem] noncomputable def zco:Ent Tryz.prog 157:= .m4 zq zw (intT .i64) zfo zoP
open Go Go.Proofs
def wkP (q:Plan) (g:Geom) (d:Disk) (e:Int):List AV:= [.d (.sl 1 (q.targets.map intD)),.d (.sl 1 (q.texts.map strD)),.d (.int .i64 g.guest),.d (.int .i64 g.host),.d (.str d.data),.d (.sl 2 (d.cache.map putD)),.d (.int .i64 d.fuse),.d (.bool d.off),.d (.sl 1 (d.bad.map intD)),.d (.int .i64 e)]
attribute [go_sem] wkP
theorem ztc {fl fl':Nat} {f:FuncId} {caps:List AV} {h:AHeap} {K:AHeap→Prop} {q:Plan} {g:Geom} {d:Disk} {e:Int} (hfl:∀i,(hget h i).isSome→i<fl) (hle:fl'≤fl) (hw:hget h 5=some (.var (wkP q g d e)))
  (hk:∀h',K h'→∀i,(hget h i).isSome→(hget h' i).isSome)
  (h1:e≠0→K h)
  (h2:e=0→ACallAt Tryz.prog fl f caps h (fun r h'=>∃q' e',r= .tup [planA q',.d (.int .i64 e')]∧hget h' 5=some (.var (wkP q g d e))∧K (hset h' 5 (.var (wkP q' g d e'))))):
  ACallAt Tryz.prog fl' 251 [.vp 5 0,.fn (.func f) [] caps] h (fun r h'=>r= .tup []∧K h'):=by
 refine ACall.whole (fl:=fl) ?_ hfl hle (fun r h' hr=>hk h' hr.2)
 refine bod Tryz.func251 Tryz.ntmps251 (fun base=>?_)
 cases he:(e==0) with
 |false=>
  have he':e≠0:=by simpa using he
  simp only [wkP] at hw
  (have fx:=(⟨hw,he⟩:_∧_);repeat' (first|(refine hK _ ?_;clear hK K)|refine wa fun K hK=>?_|refine wb ?_|refine wc ?_ ?_|refine fun (nb:Bool) (hnb:nb=true→_)=>?_|exact we|refine fun (hc:_=(_:Bool))=>?_|clear hK K))
  exact h1 he'
 |true=>
  have he':e=0:=by simpa using he
  have h2:=h2 he'
  simp only [wkP] at hw
  (have fx:=(⟨hw,he⟩:_∧_);repeat' (first|(refine hK _ ?_;clear hK K)|refine wa fun K hK=>?_|refine wb ?_|refine wc ?_ ?_|refine fun (nb:Bool) (hnb:nb=true→_)=>?_|exact we|refine fun (hc:_=(_:Bool))=>?_|clear hK K))
  refine h2.mono ?_
  rintro r h' ⟨q',e',rfl,hw',hK⟩
  simp only [wkP] at hw'
  have hs1:∀o,hget (hset h' 5 o) 5=some o:=fun o=>ze hw'
  have hs2:∀a b,hset (hset h' 5 a) 5 b=hset h' 5 b:=fun a b=>zf6 h' 5 a b
  simp only [go_sem,hw',hs1,hs2]
  (have fx:=(⟨hw',hs1,hs2⟩:_∧_∧_);repeat' (first|(refine hK _ ?_;clear hK K)|refine wa fun K hK=>?_|refine wb ?_|refine wc ?_ ?_|refine fun (nb:Bool) (hnb:nb=true→_)=>?_|exact we|refine fun (hc:_=(_:Bool))=>?_|clear hK K))
structure Wk where
 q:Plan
 e:Int
def wcount (d:Disk) (s:Wk) (k by_:Int):Wk:=if s.e≠0 then s else ⟨(radd d s.q k by_).1,(radd d s.q k by_).2⟩
def wget (d:Disk) (s:Wk) (t i:Int):Ent2×Wk:=if s.e≠0 then (⟨0,0⟩,s) else ((eget d s.q t i).1,⟨s.q,(eget d s.q t i).2⟩)
@[go_sem] abbrev znt (g:Geom) (d:Disk) (s:Wk) (k by_:Int):AHeap:= [(42,.var [.d (.int .i64 by_)]),(41,.var [.d (.int .i64 k)]),(40,.var [.vp 5 0]),(5,.var (wkP s.q g d s.e))]
theorem zqL (g:Geom) (d:Disk) (s:Wk) (k by_:Int) (h:DP d s.q):ACall Tryz.prog 269 80 [.vp 40 0,.vp 41 0,.vp 42 0] (znt g d s k by_) (fun r h'=>r= .tup [planA (radd d s.q k by_).1,.d (.int .i64 (radd d s.q k by_).2)]∧h'=znt g d s k by_):=by
 refine zR (fun i=>decide (i<80)) ?_
 refine bod Tryz.func269 Tryz.ntmps269 (fun base=>?_)
 (have tk:=za zbg <| za zkN <| za zfu <| za zas <| za zeG <| za zcj <| za zhH <| za zca <| zb Tryz.prog;repeat' (first|(refine hK _ ?_;clear hK K)|refine wa fun K hK=>?_|refine wb ?_|refine wc ?_ ?_|refine fun (nb:Bool) (hnb:nb=true→_)=>?_|exact we|clear hK K))
theorem zsC (g:Geom) (d:Disk) (s:Wk) (k by_:Int) (h:DP d s.q):ACall Tryz.prog 222 40 [.vp 5 0,.d (.int .i64 k),.d (.int .i64 by_)] [(5,.var (wkP s.q g d s.e))] (fun r h'=>∃ob',h'= [(5,ob')]∧r= .tup []∧ob'= .var (wkP (wcount d s k by_).q g d (wcount d s k by_).e)):=by
 refine zR (fun i=>decide (i<40)) ?_
 refine bod Tryz.func222 Tryz.ntmps222 (fun base=>?_)
 (repeat' (first|(refine hK _ ?_;clear hK K)|refine wa fun K hK=>?_|refine wb ?_|refine wc ?_ ?_|exact we|clear hK K))
 refine (ztc (fl:=60) (K:=fun h'=>(s.e≠0∧h'=znt g d s k by_)∨(s.e=0∧h'=hset (znt g d s k by_) 5 (.var (wkP (radd d s.q k by_).1 g d (radd d s.q k by_).2)))) (zap rfl) (by omega) rfl ?_ ?_ ?_).mono ?_
 ·rintro h' (⟨_,rfl⟩|⟨_,rfl⟩) i hi
  ·exact hi
  ·rw [za5 (by rfl)]
   revert hi
   simp only [hget]
   repeat' split
   all_goals simp
 ·intro he;exact .inl ⟨he,rfl⟩
 ·intro he
  refine ((zqL g d s k by_ h).whole (zap rfl) (by omega) (by
   rintro r h' ⟨_,rfl⟩ i hi
   revert hi
   simp only [hget]
   repeat' split
   all_goals simp)).mono ?_
  rintro r h' ⟨rfl,rfl⟩
  exact ⟨_,_,rfl,rfl,.inr ⟨he,rfl⟩⟩
 ·rintro r h' ⟨rfl,(⟨he,rfl⟩|⟨he,rfl⟩)⟩
  ·have hm:wcount d s k by_=s:=by rw [wcount,if_pos he]
   rw [hm]
   (repeat' (first|(refine hK _ ?_;clear hK K)|refine wa fun K hK=>?_|refine wb ?_|refine wc ?_ ?_|exact we|clear hK K))
   all_goals first|rfl|exact ⟨_,rfl,rfl⟩|exact ⟨_,rfl,by rw [hm]⟩|skip
  ·have hm:wcount d s k by_=⟨(radd d s.q k by_).1,(radd d s.q k by_).2⟩:=by rw [wcount,if_neg (by rw [he];decide)]
   rw [hm]
   (repeat' (first|(refine hK _ ?_;clear hK K)|refine wa fun K hK=>?_|refine wb ?_|refine wc ?_ ?_|exact we|clear hK K))
   all_goals first|rfl|exact ⟨_,rfl,rfl⟩|exact ⟨_,rfl,by rw [hm]⟩|skip
@[go_sem] abbrev hGet (g:Geom) (d:Disk) (s:Wk) (t i:Int):AHeap:= [(43,.var [.d (.int .i64 0),.d (.int .i64 0)]),(42,.var [.d (.int .i64 i)]),(41,.var [.d (.int .i64 t)]),(40,.var [.vp 5 0]),(5,.var (wkP s.q g d s.e))]
@[go_sem] abbrev hGet2 (g:Geom) (d:Disk) (s:Wk) (t i:Int):AHeap:= [(43,.var [.d (.int .i64 (eget d s.q t i).1.kind),.d (.int .i64 (eget d s.q t i).1.loc)]),(42,.var [.d (.int .i64 i)]),(41,.var [.d (.int .i64 t)]),(40,.var [.vp 5 0]),(5,.var (wkP s.q g d s.e))]
theorem zt4 (g:Geom) (d:Disk) (s:Wk) (t i:Int) (h:DP d s.q):ACall Tryz.prog 252 80 [.vp 40 0,.vp 41 0,.vp 42 0,.vp 43 0] (hGet g d s t i) (fun r h'=>r= .tup [planA s.q,.d (.int .i64 (eget d s.q t i).2)]∧h'=hGet2 g d s t i):=by
 refine zR (fun i=>decide (i<80)) ?_
 refine bod Tryz.func252 Tryz.ntmps252 (fun base=>?_)
 (have tk:=za zbg <| za zkN <| za zfu <| za zas <| za zeG <| za zcj <| za zhH <| za zca <| zb Tryz.prog;repeat' (first|(refine hK _ ?_;clear hK K)|refine wa fun K hK=>?_|refine wb ?_|refine wc ?_ ?_|refine fun (nb:Bool) (hnb:nb=true→_)=>?_|exact we|clear hK K))
theorem ztd (g:Geom) (d:Disk) (s:Wk) (t i:Int) (h:DP d s.q):ACall Tryz.prog 196 40 [.vp 5 0,.d (.int .i64 t),.d (.int .i64 i)] [(5,.var (wkP s.q g d s.e))] (fun r h'=>∃ob',h'= [(5,ob')]∧r=entA (wget d s t i).1∧ob'= .var (wkP ((wget d s t i).2).q g d ((wget d s t i).2).e)):=by
 refine zR (fun i=>decide (i<40)) ?_
 refine bod Tryz.func196 Tryz.ntmps196 (fun base=>?_)
 (repeat' (first|(refine hK _ ?_;clear hK K)|refine wa fun K hK=>?_|refine wb ?_|refine wc ?_ ?_|exact we|clear hK K))
 refine (ztc (fl:=60) (K:=fun h'=>(s.e≠0∧h'=hGet g d s t i)∨(s.e=0∧h'=hset (hGet2 g d s t i) 5 (.var (wkP s.q g d (eget d s.q t i).2)))) (zap rfl) (by omega) rfl ?_ ?_ ?_).mono ?_
 ·rintro h' (⟨_,rfl⟩|⟨_,rfl⟩) i hi
  ·exact hi
  ·rw [za5 (by rfl)]
   revert hi
   simp only [hget]
   repeat' split
   all_goals simp
 ·intro he;exact .inl ⟨he,rfl⟩
 ·intro he
  refine ((zt4 g d s t i h).whole (zap rfl) (by omega) (by
   rintro r h' ⟨_,rfl⟩ i hi
   revert hi
   simp only [hget]
   repeat' split
   all_goals simp)).mono ?_
  rintro r h' ⟨rfl,rfl⟩
  exact ⟨_,_,rfl,rfl,.inr ⟨he,rfl⟩⟩
 ·rintro r h' ⟨rfl,(⟨he,rfl⟩|⟨he,rfl⟩)⟩
  ·have hm:wget d s t i=(⟨0,0⟩,s):=by rw [wget,if_pos he]
   (have fx:=hm;repeat' (first|(refine hK _ ?_;clear hK K)|refine wa fun K hK=>?_|refine wb ?_|refine wc ?_ ?_|exact we|clear hK K))
   all_goals first|rfl|exact ⟨_,rfl,rfl⟩|exact ⟨_,rfl,by rw [hm]⟩|skip
  ·have hm:wget d s t i=((eget d s.q t i).1,⟨s.q,(eget d s.q t i).2⟩):=by rw [wget,if_neg (by rw [he];decide)]
   (have fx:=hm;repeat' (first|(refine hK _ ?_;clear hK K)|refine wa fun K hK=>?_|refine wb ?_|refine wc ?_ ?_|exact we|clear hK K))
   all_goals first|rfl|exact ⟨_,rfl,rfl⟩|exact ⟨_,rfl,by rw [hm]⟩|skip
open Go Go.Proofs
open Go Go.Proofs
theorem DP.wcount {d:Disk} {s:Wk} (h:DP d s.q) (k b:Int):DP d (wcount d s k b).q:=by
 unfold Aw.wcount;split
 ·exact h
 ·exact h.radd _ _
open Go Go.Proofs
open Go Go.Proofs
structure Dmap where
 name:Txt
 inuse:Bool
 bits:List Bool
 deriving DecidableEq
def dmapD (m:Dmap):List D:= .str m.name:: .bool m.inuse::m.bits.map .bool
theorem zhA:∀ {a b:List Bool},a.map D.bool=b.map D.bool→a=b
 | [],[],_=>rfl
 | [],_::_,h=>by simp at h
 |_::_,[],h=>by simp at h
 |x::a,y::b,h=>by
  simp only [List.map_cons,List.cons.injEq,D.bool.injEq] at h
  rw [h.1,zhA h.2]
theorem zfs:∀a b,dmapD a=dmapD b→a=b:=by
 rintro ⟨n,u,b⟩ ⟨n',u',b'⟩ h
 simp only [dmapD,List.cons.injEq,D.str.injEq,D.bool.injEq] at h
 rw [h.1,h.2.1,zhA h.2.2]
structure Img where
 disk:Disk
 geom:Geom
 jour:Jour
 maps:List Dmap
 broken:Bool
 deriving DecidableEq
def imgA (x:Img):AV:= .agg [.d (.str x.disk.data),.d (.sl 2 (x.disk.cache.map putD)),.d (.int .i64 x.disk.fuse),.d (.bool x.disk.off),.d (.sl 1 (x.disk.bad.map intD)),.d (.int .i64 x.geom.guest),.d (.int .i64 x.geom.host),.d (.int .u64 x.jour.seq),.d (.int .i64 x.jour.pos),.d (.sl 66 (x.maps.map dmapD)),.d (.bool x.broken)]
attribute [go_sem] imgA
theorem ztV (x:Img):Img.mk x.disk x.geom x.jour x.maps x.broken=x:=rfl
noncomputable def zbp:PT Img:=aggT (consL strT (consL (slT 2 putD zja) (consL (intT .i64) (consL boolT (consL (slT 1 intD zcy) (consL (intT .i64) (consL (intT .i64) (consL (intT .u64) (consL (intT .i64) (consL (slT 66 dmapD zfs) (consL boolT nilL))))))))))) (fun p=>⟨⟨p.1,p.2.1,p.2.2.1,p.2.2.2.1,p.2.2.2.2.1⟩,⟨p.2.2.2.2.2.1,p.2.2.2.2.2.2.1⟩,⟨p.2.2.2.2.2.2.2.1,p.2.2.2.2.2.2.2.2.1⟩,p.2.2.2.2.2.2.2.2.2.1,p.2.2.2.2.2.2.2.2.2.2.1⟩) (fun x=>(x.disk.data,x.disk.cache,x.disk.fuse,x.disk.off,x.disk.bad,x.geom.guest,x.geom.host,x.jour.seq,x.jour.pos,x.maps,x.broken,())) (fun _=>rfl)
attribute [go_sem] zbp
attribute [go_sem] ztV
structure ImgOk (x:Img):Prop where
 disk:DiskOk x.disk
 maps:x.maps.length≤9223372036854775807
 names:∀m∈x.maps,m.name.length≤9223372036854775807
 bits:∀m∈x.maps,m.bits.length=64
def mfit (n0:Txt):Nat→List Dmap→Bool
 |_,[]=>true
 |i,m::r=>zax m.name&&m.inuse&& !(decide (0<i)&&(n0==m.name))&&mfit n0 (i+1) r
def ifit (x:Img):Bool:=
 zdu x.geom.guest x.geom.host&&dfit x.disk&&((dsize x.disk:Int)==zhk x.geom.guest x.geom.host)&&jfit x.jour&&decide (x.maps.length≤2)&&mfit (x.maps.head?.map (·.name) |>.getD []) 0 x.maps
theorem zqr (x:Img) (h:ImgOk x):AC 40 [imgA x] (.d (.bool (ifit x))):=by
 refine fbod Tryz.func40 Tryz.ntmps40 (fun base=>?_)
 have h1:=h.disk
 have h2:=h.maps
 by_cases hc0:(!zdu x.geom.guest x.geom.host|| !dfit x.disk||((dsize x.disk:Int) !=zhk x.geom.guest x.geom.host)|| !jfit x.jour||decide (2<(x.maps.length:Int)))=true
 ·(have tk:=za zcE <| za zew <| za za0 <| za zez <| za zeB <| za zN <| zb Tryz.prog;have fx:=hc0;repeat' (first|(refine hK _ ?_;clear hK K)|refine wa fun K hK=>?_|refine wb ?_|refine wc ?_ ?_|exact we|refine fun (hc:_=(_:Bool))=>?_|clear hK K))
  have:ifit x=false:=by
   simp only [Bool.or_eq_true,Bool.not_eq_true',bne_iff_ne,decide_eq_true_eq] at hc0
   unfold ifit
   rcases hc0 with (((hh|hh)|hh)|hh)|hh
   ·rw [hh];simp
   ·rw [hh];simp
   ·rw [beq_eq_false_iff_ne.2 hh];simp
   ·rw [hh];simp
   ·rw [decide_eq_false (p:=x.maps.length≤2) (by omega)];simp
  rw [this]
 have hc0:(!zdu x.geom.guest x.geom.host|| !dfit x.disk||((dsize x.disk:Int) !=zhk x.geom.guest x.geom.host)|| !jfit x.jour||decide (2<(x.maps.length:Int)))=false:=by simpa using hc0
 have hfit:ifit x=mfit (x.maps.head?.map (·.name) |>.getD []) 0 x.maps:=by
  simp only [Bool.or_eq_false_iff,Bool.not_eq_false',bne_eq_false_iff_eq,decide_eq_false_iff_not] at hc0
  rw [ifit,hc0.1.1.1.1,hc0.1.1.1.2,hc0.1.2,beq_iff_eq.2 hc0.1.1.2,decide_eq_true (p:=x.maps.length≤2) (by omega)]
  rfl
 (have tk:=za zcE <| za zew <| za za0 <| za zez <| za zeB <| za zN <| zb Tryz.prog;have fx:=hc0;repeat' (first|(refine hK _ ?_;clear hK K)|refine wa fun K hK=>?_|refine wb ?_|refine wc ?_ ?_|exact we|refine fun (hc:_=(_:Bool))=>?_|clear hK K))
 obtain ⟨N0,hN0⟩:∃N0,N0=(x.maps.head?.map (·.name) |>.getD []):=⟨_,rfl⟩
 rw [← hN0] at hfit
 refine zo (fun q: { i:Nat // i≤x.maps.length∧ifit x=mfit N0 i (x.maps.drop i) } =>⟨[(1,true,.vp 0 0),(3,true,.d (.int .i64 q.1))],[(0,.var [.d (.str x.disk.data),.d (.sl 2 (x.disk.cache.map putD)),.d (.int .i64 x.disk.fuse),.d (.bool x.disk.off),.d (.sl 1 (x.disk.bad.map intD)),.d (.int .i64 x.geom.guest),.d (.int .i64 x.geom.host),.d (.int .u64 x.jour.seq),.d (.int .i64 x.jour.pos),.d (.sl 66 (x.maps.map dmapD)),.d (.bool x.broken)])],some []⟩) (fun q=>x.maps.length - q.1) ⟨0,Nat.zero_le _,hfit⟩ le1 (fun q=>?_)
 obtain ⟨i,hi,hf⟩:=q
 simp only at hi hf ⊢
 rcases zT dmapD x.maps i hi with ⟨m,hq,hlt,hcmp,hrow,hdr,htk⟩|⟨hend,hcmp⟩
 ·obtain ⟨m0,hq0⟩:=zaj (l:=x.maps) (i:=0) (by omega)
  have hrow0:=za8 (g:=dmapD) hq0
  simp only [dmapD] at hrow hrow0
  have hpos:decide ((0:Int)<(x.maps.length:Int))=true:=decide_eq_true (by omega)
  have hwi:=zp (i:=i) (by omega)
  have hnl:=h.names m (List.mem_of_getElem? hq)
  have hN:N0=m0.name:=by rw [hN0,List.head?_eq_getElem?,hq0];rfl
  rw [hdr,mfit,hN] at hf
  have hall:(!zax m.name|| !m.inuse||(decide ((0:Int)<(i:Int))&&(m0.name==m.name)))= !(zax m.name&&m.inuse&& !(decide (0<i)&&(m0.name==m.name))):=by
   rw [Bool.not_and,Bool.not_and,Bool.not_not,show decide ((0:Int)<(i:Int))=decide (0<i) from zuO]
  (have tk:=za zcE <| za zew <| za za0 <| za zez <| za zeB <| za zN <| zb Tryz.prog;have fx:=(⟨hcmp,hrow,hrow0,hpos,@Int.toNat_natCast⟩:_∧_∧_∧_∧_);repeat' (first|(refine hK _ ?_;clear hK K)|refine wa fun K hK=>?_|refine wb ?_|refine wc ?_ ?_|exact we|refine fun (hc:_=(_:Bool))=>?_|clear hK K))
  ·rename_i hg0
   rw [hg0,hc];rfl
  ·rw [hall] at hc
   simp only [Bool.not_eq_true'] at hc
   rw [hf,hc,Bool.false_and]
  ·rw [hall] at hc
   simp only [Bool.not_eq_false'] at hc
   rw [hc,Bool.true_and,← hN] at hf
   exact ⟨⟨i+1,by omega,hf⟩,lew,by simp;omega⟩
 ·(have tk:=za zcE <| za zew <| za za0 <| za zez <| za zeB <| za zN <| zb Tryz.prog;have fx:=hcmp;repeat' (first|(refine hK _ ?_;clear hK K)|refine wa fun K hK=>?_|refine wb ?_|refine wc ?_ ?_|exact we|refine fun (hc:_=(_:Bool))=>?_|clear hK K))
  rw [hf,hend,List.drop_length]
  rfl
@[go_sem] noncomputable def zl7:Ent Tryz.prog 40:= .m1 zbp zqr
theorem zsi {n:Nat} {a b:List Bool} (ha:a.length=n) (hb:b.length=n):((List.range n).all fun i=>a.getD i false==b.getD i false)=decide (a=b):=by
 rw [Bool.eq_iff_iff,List.all_eq_true,decide_eq_true_eq]
 constructor
 ·intro h
  apply List.ext_getElem (by omega)
  intro i h1 h2
  have:=h i (by simp;omega)
  simpa [List.getD_eq_getElem?_getD,h1,h2] using this
 ·rintro rfl i _
  simp
theorem ziE {P:Program} {e:Nat} (he:(ty P e).td= .bool) {a b:List Bool} {n d:Nat} (ha:a.length=n) (hb:b.length=n):∀l:List Nat,(∀i∈l,i<n)→
  aeq.aeqF P (l.map fun i=>(i,e)) (a.map fun x=>AV.d (.bool x)) (b.map fun x=>AV.d (.bool x)) (fun f=>aeq P (d+1) f)=(True,l.all fun i=>a.getD i false==b.getD i false)
 | [],_=>rfl
 | i::l,h=>by
  have ih:=ziE he ha hb (d:=d) l (fun j hj=>h j (by simp [hj]))
  have hi:i<n:=h i (by simp)
  have hx:∀ (c:List Bool),c.length=n→apart P e (c.map fun x=>AV.d (.bool x)) i= .d (.bool (c.getD i false)):=fun c hc=>by
   unfold apart
   rw [he]
   simp [TD.agg,List.getD_eq_getElem?_getD,hc,hi]
  simp only [List.map_cons,aeq.aeqF,ih,hx a ha,hx b hb]
  have h1:aeq P (d+1) e (.d (.bool (a.getD i false))) (.d (.bool (b.getD i false)))=(True,a.getD i false==b.getD i false):=by
   unfold aeq
   rw [he]
  rw [h1]
  have hp:psize P e=1:=by unfold psize;rw [he];rfl
  simp only [he,hp,List.length_map,ha,hb,List.all_cons,ne_eq,reduceCtorEq,not_false_eq_true,true_and,and_true]
  rw [eq_true (show i+1≤n∧i+1≤n from ⟨hi,hi⟩)]
theorem zsj {P:Program} {t e:Nat} (ht:(ty P t).td= .arr 64 e) (he:(ty P e).td= .bool) (hz:(ty P e).size=1) {a b:List Bool} {d:Nat} (ha:a.length=64) (hb:b.length=64):
  aeq P (d+2) t (.agg (a.map fun x=>AV.d (.bool x))) (.agg (b.map fun x=>AV.d (.bool x)))=(True,decide (a=b)):=by
 have:=ziE he ha hb (d:=d) (List.range 64) (fun i hi=>by simpa using hi)
 unfold aeq
 simp only [ht,hz,Nat.mul_one]
 rw [this,zsi ha hb]
 simp only [he,ne_eq,reduceCtorEq,not_false_eq_true,and_true]
theorem znp (l:List Bool):(l.map D.bool).map AV.d=l.map fun x=>AV.d (.bool x):=by rw [List.map_map];rfl
open Go Go.Proofs
theorem zsk {P:Program} {t s b a e:Nat} (ht:(ty P t).td= .struct [(0,s),(1,b),(2,a)]) (hs:(ty P s).td= .str) (hb:(ty P b).td= .bool) (ha:(ty P a).td= .arr 64 e) (he:(ty P e).td= .bool) (hz:(ty P e).size=1) (hza:(ty P a).size=64) (hst:P.stoodInHeld t=false)
  {m m':Dmap} (hm:m.bits.length=64) (hm':m'.bits.length=64):
  aeq P 12 t (.agg (.d (.str m.name):: .d (.bool m.inuse)::(m.bits.map D.bool).map AV.d)) (.agg (.d (.str m'.name):: .d (.bool m'.inuse)::(m'.bits.map D.bool).map AV.d))=(True,decide (m=m')):=by
 have h1:=zsj (P:=P) (t:=a) ha he hz (d:=9) hm hm'
 have hl:∀c:List Bool,c.length=64→List.take 64 (c.map fun x=>AV.d (.bool x))=c.map fun x=>AV.d (.bool x):=fun c hc=>List.take_of_length_le (by simp [hc])
 rw [znp,znp]
 have p0:∀c:Dmap,apart P s (.d (.str c.name):: .d (.bool c.inuse)::(c.bits.map fun x=>AV.d (.bool x))) 0= .d (.str c.name):=fun c=>by unfold apart;rw [hs];rfl
 have p1:∀c:Dmap,apart P b (.d (.str c.name):: .d (.bool c.inuse)::(c.bits.map fun x=>AV.d (.bool x))) 1= .d (.bool c.inuse):=fun c=>by unfold apart;rw [hb];rfl
 have p2:∀c:Dmap,c.bits.length=64→apart P a (.d (.str c.name):: .d (.bool c.inuse)::(c.bits.map fun x=>AV.d (.bool x))) 2= .agg (c.bits.map fun x=>AV.d (.bool x)):=fun c hc=>by
  unfold apart
  rw [ha,hza]
  simp only [TD.agg,if_true,List.drop_succ_cons,List.drop_zero,hl c.bits hc]
 have q0:psize P s=1:=by unfold psize;rw [hs];rfl
 have q1:psize P b=1:=by unfold psize;rw [hb];rfl
 have q2:psize P a=64:=by unfold psize;rw [ha,hza];rfl
 have e0:aeq P 11 s (.d (.str m.name)) (.d (.str m'.name))=(True,m.name==m'.name):=by unfold aeq;rw [hs]
 have e1:aeq P 11 b (.d (.bool m.inuse)) (.d (.bool m'.inuse))=(True,m.inuse==m'.inuse):=by unfold aeq;rw [hb]
 unfold aeq
 simp only [ht,hst,aeq.aeqF,p0,p1,p2 m hm,p2 m' hm',q0,q1,q2,e0,e1,h1,hs,hb,ha,List.length_cons,List.length_map,hm,hm',ne_eq,reduceCtorEq,not_false_eq_true,true_and,and_true,Bool.and_true]
 refine Prod.ext (by simp) ?_
 simp only
 rw [Bool.eq_iff_iff]
 simp only [Bool.and_eq_true,beq_iff_eq,decide_eq_true_eq]
 obtain ⟨n,u,l⟩:=m
 obtain ⟨n',u',l'⟩:=m'
 simp
theorem zkF (a b:List Dmap) (hp:a.length≤9223372036854775807∧b.length≤9223372036854775807∧(∀m∈a,m.bits.length=64)∧(∀m∈b,m.bits.length=64)):AC 58 [.d (.sl 66 (a.map dmapD)),.d (.sl 66 (b.map dmapD))] (.d (.bool (decide (a=b)))):=by
 obtain ⟨ha,hb,hla,hlb⟩:=hp
 refine fbod Tryz.func58 Tryz.ntmps58 (fun base=>?_)
 by_cases hl:a.length=b.length
 ·have hb0:((a.length:Int) !=(b.length:Int))=false:=by rw [hl];simp
  (have fx:=hb0;repeat' (first|(refine hK _ ?_;clear hK K)|refine wa fun K hK=>?_|refine wb ?_|refine wc ?_ ?_|exact we|refine fun (hc:_=(_:Bool))=>?_|clear hK K))
  refine zo (fun q: { i:Nat // i≤a.length∧decide (a=b)=decide (a.drop i=b.drop i) } =>⟨[(0,true,.d (.sl 66 (a.map dmapD))),(1,true,.d (.sl 66 (b.map dmapD))),(5,true,.d (.int .i64 q.1))],[],some []⟩) (fun q=>a.length - q.1) ⟨0,Nat.zero_le _,rfl⟩ le1 (fun q=>?_)
  obtain ⟨i,hi,hf⟩:=q
  simp only at hi hf ⊢
  rcases zT dmapD a i hi with ⟨m,hq,hlt,hcmp,hrow,hdr,htk⟩|⟨hend,hcmp⟩
  ·obtain ⟨m',hq'⟩:=zaj (l:=b) (i:=i) (by omega)
   have hrow':=za8 (g:=dmapD) hq'
   simp only [dmapD] at hrow hrow'
   have hcmp':decide ((i:Int)<(b.length:Int))=true:=by rw [← hl];exact hcmp
   have hwi:=zp (i:=i) (by omega)
   have hm:=hla m (List.mem_of_getElem? hq)
   have hm':=hlb m' (List.mem_of_getElem? hq')
   rw [hdr,zcq hq'] at hf
   have hae:=zsk (P:=Tryz.prog) (t:=166) (s:=9) (b:=4) (a:=164) (e:=4) (by simp only [go_sem]) (by simp only [go_sem]) (by simp only [go_sem]) (by simp only [go_sem]) (by simp only [go_sem]) (by simp only [go_sem]) (by simp only [go_sem]) (by kernel_rfl) hm hm'
   have ht1:List.take 64 ((m.bits.map D.bool).map AV.d)=(m.bits.map D.bool).map AV.d:=List.take_of_length_le (by simp [hm])
   have ht2:List.take 64 ((m'.bits.map D.bool).map AV.d)=(m'.bits.map D.bool).map AV.d:=List.take_of_length_le (by simp [hm'])
   (have tk:=zb Tryz.prog);repeat' (first|((first|(refine sa ?_;intro K hK)|refine sb ?_);simp only [go_sem,simprocAttr,hcmp,hcmp',hrow,hrow',ht1,ht2,hae,hm,hm',Int.toNat_natCast,Tryz.results58])|refine zj (fun K hK=>?_)|refine sc ?_|refine zi rfl (fun hc=>?_) (fun hc=>?_)|(refine hK _ ?_;clear hK K)|with_reducible refine And.intro ?_ ?_|(refine (show zV _ _=true from ?_);kernel_rfl)|omega|assumption|clear hK K)
   ·rw [hf]
    simp only [Bool.not_eq_true',decide_eq_false_iff_not] at hc
    rw [decide_eq_false]
    simp only [List.cons.injEq]
    exact fun h=>hc h.1
   ·simp only [Bool.not_eq_false',decide_eq_true_eq] at hc
    refine ⟨⟨i+1,by omega,?_⟩,lew,by simp;omega⟩
    rw [hf,hc]
    simp
  ·(have fx:=hcmp;repeat' (first|(refine hK _ ?_;clear hK K)|refine wa fun K hK=>?_|refine wb ?_|refine wc ?_ ?_|exact we|refine fun (hc:_=(_:Bool))=>?_|clear hK K))
   rw [hf,List.drop_of_length_le (by omega),List.drop_of_length_le (by omega)]
   rfl
 ·have hb0:((a.length:Int) !=(b.length:Int))=true:=by rw [bne_iff_ne];omega
  (have fx:=hb0;repeat' (first|(refine hK _ ?_;clear hK K)|refine wa fun K hK=>?_|refine wb ?_|refine wc ?_ ?_|exact we|refine fun (hc:_=(_:Bool))=>?_|clear hK K))
  rw [decide_eq_false (fun h=>hl (by rw [h]))]
@[go_sem] noncomputable def zh4:Ent Tryz.prog 58:= .m2 (slT 66 dmapD zfs) (slT 66 dmapD zfs) zkF
open Go Go.Proofs
theorem ztW (a b:Img):(decide (a.disk=b.disk)&&(a.geom.guest==b.geom.guest&&a.geom.host==b.geom.host)&&(a.jour.seq==b.jour.seq&&a.jour.pos==b.jour.pos)&&decide (a.maps=b.maps)&&(a.broken==b.broken))=decide (a=b):=by
 obtain ⟨d,⟨g,h⟩,⟨s,p⟩,m,br⟩:=a
 obtain ⟨d',⟨g',h'⟩,⟨s',p'⟩,m',br'⟩:=b
 rw [Bool.eq_iff_iff]
 simp only [Bool.and_eq_true,beq_iff_eq,decide_eq_true_eq,Img.mk.injEq,Geom.mk.injEq,Jour.mk.injEq]
 constructor
 ·rintro ⟨⟨⟨⟨h1,h2⟩,h3⟩,h4⟩,h5⟩;exact ⟨h1,h2,h3,h4,h5⟩
 ·rintro ⟨h1,h2,h3,h4,h5⟩;exact ⟨⟨⟨⟨h1,h2⟩,h3⟩,h4⟩,h5⟩
theorem zoq (a b:Img) (hp:ImgOk a∧ImgOk b):AC 21 [imgA a,imgA b] (.d (.bool (decide (a=b)))):=by
 obtain ⟨ha,hb⟩:=hp
 refine fbod Tryz.func21 Tryz.ntmps21 (fun base=>?_)
 have h1:=ha.disk
 have h2:=hb.disk
 have h3:=ha.maps
 have h4:=hb.maps
 have h5:=ha.bits
 have h6:=hb.bits
 (have tk:=za zlE <| za zh4 <| zb Tryz.prog;repeat' (first|(refine hK _ ?_;clear hK K)|refine wa fun K hK=>?_|refine wb ?_|refine wc ?_ ?_|exact we|refine fun (hc:_=(_:Bool))=>?_|clear hK K))
 rw [ztW]
@[go_sem] noncomputable def zgu:Ent Tryz.prog 21:= .m2 zbp zbp zoq
def mset (g:Nat) (m:Dmap):Dmap:= { m with bits:=m.bits.set g true }
def cmark (x:Img) (guest:Int):Img:=if guest<0∨64≤guest then x else { x with maps:=x.maps.map (mset guest.toNat) }
theorem znq (m:Dmap) (g:Nat):(dmapD m).set (2+g) (.bool true)=dmapD (mset g m):=by
 rw [Nat.add_comm]
 simp [dmapD,mset,List.map_set]
theorem zsl {x:Img} (h:ImgOk x) (g:Int):ImgOk (cmark x g):=by
 unfold cmark
 split
 ·exact h
 ·refine ⟨h.disk,by simp only [List.length_map];exact h.maps,fun m hm=>?_,fun m hm=>?_⟩
  ·obtain ⟨m0,h0,rfl⟩:=List.mem_map.1 hm
   exact h.names m0 h0
  ·obtain ⟨m0,h0,rfl⟩:=List.mem_map.1 hm
   simp [mset,h.bits m0 h0]
theorem zor (x:Img) (guest:Int) (hp:ImgOk x∧x.maps.length≤1000000):AC 93 [imgA x,.d (.int .i64 guest)] (imgA (cmark x guest)):=by
 obtain ⟨h,h2⟩:=hp
 refine fbod Tryz.func93 Tryz.ntmps93 (fun base=>?_)
 by_cases hg:guest<0∨64≤guest
 ·have hdec:(decide (guest<0)||decide (64≤guest))=true:=by simpa using hg
  (have fx:=hdec;repeat' (first|(refine hK _ ?_;clear hK K)|refine va fun K hK=>?_|refine vb ?_|refine wc ?_ ?_|refine fun (nb:Bool) (hnb:nb=true→_)=>?_|exact we|refine fun (hc:_=(_:Bool))=>?_|clear hK K))
  rw [cmark,if_pos hg]
 ·have hdec:(decide (guest<0)||decide (64≤guest))=false:=by simpa using hg
  obtain ⟨g,rfl⟩:∃g:Nat,guest=g:=⟨guest.toNat,by omega⟩
  have hg2:g<64:=by omega
  (have fx:=hdec;repeat' (first|(refine hK _ ?_;clear hK K)|refine va fun K hK=>?_|refine vb ?_|refine wc ?_ ?_|refine fun (nb:Bool) (hnb:nb=true→_)=>?_|exact we|refine fun (hc:_=(_:Bool))=>?_|clear hK K))
  obtain ⟨n,hn⟩:∃n,n=x.maps.length:=⟨_,rfl⟩
  refine zo (fun q: { i:Nat // i≤x.maps.length } =>⟨[(1,true,.d (.int .i64 g)),(2,true,.vp 0 0),(4,true,.vp 1 0),(5,true,.osl 2 66 x.maps.length 0 x.maps.length),(6,true,.d (.int .i64 q.1))],[(2,.arr 66 (((x.maps.take q.1).map (mset g)++x.maps.drop q.1).map dmapD)),(1,.var [.d (.str []),.nils 2,.d (.int .i64 0),.d (.bool false),.nils 1,.d (.int .i64 0),.d (.int .i64 0),.d (.int .u64 0),.d (.int .i64 0),.nils 66,.d (.bool false)]),(0,.var [.d (.str x.disk.data),.d (.sl 2 (x.disk.cache.map putD)),.d (.int .i64 x.disk.fuse),.d (.bool x.disk.off),.d (.sl 1 (x.disk.bad.map intD)),.d (.int .i64 x.geom.guest),.d (.int .i64 x.geom.host),.d (.int .u64 x.jour.seq),.d (.int .i64 x.jour.pos),.d (.sl 66 (x.maps.map dmapD)),.d (.bool x.broken)])],some []⟩) (fun q=>x.maps.length - q.1) ⟨0,Nat.zero_le _⟩ le1 (fun q=>?_)
  obtain ⟨i,hi⟩:=q
  simp only
  have hL:((x.maps.take i).map (mset g)++x.maps.drop i).length=x.maps.length:=by simp;omega
  rcases Nat.lt_or_ge i x.maps.length with hlt|hge
  ·obtain ⟨m,hq⟩:=zaj hlt
   have hcmp:decide ((i:Int)<(x.maps.length:Int))=true:=decide_eq_true (by omega)
   have hwi:=zp (i:=i) (by omega)
   have hL1:((x.maps.take i).map (mset g)).length=i:=by simp;omega
   have hat:((x.maps.take i).map (mset g)++x.maps.drop i)[i]?=some m:=by rw [List.getElem?_append_right (by omega),hL1,Nat.sub_self,List.getElem?_drop,Nat.add_zero,hq]
   have hrow:=za8 (g:=dmapD) hat
   have hset:((x.maps.take i).map (mset g)++x.maps.drop i).set i (mset g m)=(x.maps.take (i+1)).map (mset g)++x.maps.drop (i+1):=by
    rw [List.set_append,if_neg (by omega),hL1,Nat.sub_self,zcq hq,zaZ hq,List.map_append,List.append_assoc]
    rfl
   (have fx:=(⟨hcmp,hL,hrow⟩:_∧_∧_);repeat' (first|(refine hK _ ?_;clear hK K)|refine va fun K hK=>?_|refine vb ?_|refine wc ?_ ?_|refine fun (nb:Bool) (hnb:nb=true→_)=>?_|exact we|refine fun (hc:_=(_:Bool))=>?_|clear hK K))
   have hnew:(((x.maps.take i).map (mset g)++x.maps.drop i).map dmapD).set i ((dmapD m).set (2+g*1) (.bool true))=((x.maps.take (i+1)).map (mset g)++x.maps.drop (i+1)).map dmapD:=by
    rw [Nat.mul_one,znq,← List.map_set,hset]
   exact ⟨⟨i+1,by omega⟩,by simp only [AS.le,leT,leH,zc,AsgK,AV.le,AV.leL,AObj.le,inH,idsT,idsH,AV.ids,AV.idsL,AV.idsR,AObj.ids,lk,hget,go_sem,aeq,aeq.aeqF,simprocAttr,hwi,hnew],by simp;omega⟩
  ·have hcmp:decide ((i:Int)<(x.maps.length:Int))=false:=decide_eq_false (by omega)
   (have fx:=(⟨hcmp,hL⟩:_∧_);repeat' (first|(refine hK _ ?_;clear hK K)|refine va fun K hK=>?_|refine vb ?_|refine wc ?_ ?_|refine fun (nb:Bool) (hnb:nb=true→_)=>?_|exact we|refine fun (hc:_=(_:Bool))=>?_|clear hK K))
   rw [cmark,if_neg hg,show i=x.maps.length by omega,List.take_length,List.drop_length,List.append_nil,List.take_of_length_le (by simp)]
   rfl
@[go_sem] noncomputable def zu:Ent Tryz.prog 93:= .m2 zbp (intT .i64) zor
theorem bneP {a b:Int} (h:(a !=b)=true):a≠b:=bne_iff_ne.1 h
theorem bneN {a b:Int} (h:(a !=b)=false):¬a≠b:=fun h2=>h2 (bne_eq_false_iff_eq.1 h)
theorem beqP {a b:Int} (h:(a==b)=true):a=b:=beq_iff_eq.1 h
theorem beqN {a b:Int} (h:(a==b)=false):¬a=b:=beq_eq_false_iff_ne.1 h
@[go_sem] theorem p0_fold:Plan.mk [] []=p0:=rfl
def zbx (d:Disk) (k:Int):Txt×Int:=
 if (dread d (96+2*k)).2≠0 then ([],(dread d (96+2*k)).2)
 else if (dread d (96+2*k+1)).2≠0 then ([],(dread d (96+2*k+1)).2)
 else ((dread d (96+2*k)).1++(dread d (96+2*k+1)).1,0)
theorem zjt (d:Disk) (k:Int) (hp:DiskF d∧zM k=true):AC 66 [diskA d,.d (.int .i64 k)] (.tup [.d (.str (zbx d k).1),.d (.int .i64 (zbx d k).2)]):=by
 obtain ⟨h,hk⟩:=hp
 refine fbod Tryz.func66 Tryz.ntmps66 (fun base=>?_)
 have h1:=h.ok
 have h2:=h.puts
 have hk2:=hostOk_iff.1 hk
 have hw:IntKind.i64.wrap (96+2*k+1)=96+2*k+1:=zg (by omega) (by omega)
 have hl1:=zdv (at_:=96+2*k) h2
 have hl2:=zdv (at_:=96+2*k+1) h2
 (have tk:=za zQ <| za zbB <| zb Tryz.prog;have fx:=hw;repeat' (first|(refine hK _ ?_;clear hK K)|refine wa fun K hK=>?_|refine wb ?_|refine wc ?_ ?_|exact we|refine fun (hc:_=(_:Bool))=>?_|clear hK K))
 ·rw [zbx,if_pos (bneP hc)]
 ·rename_i hc0
  rw [zbx,if_neg (bneN hc0),if_pos (bneP hc)]
 ·rename_i hc0
  rw [zbx,if_neg (bneN hc0),if_neg (bneN hc)]
@[go_sem] noncomputable def zhB:Ent Tryz.prog 66:= .m2 zq (intT .i64) zjt
theorem zf3 {d:Disk} {p:Plan} {l1 g:Int} (h:(elook d p l1 g).1.kind=1):zM (elook d p l1 g).1.loc=true:=by
 have hk:∀t i,(eget d p t i).1.kind=1→zM (eget d p t i).1.loc=true:=by
  intro t i hk
  by_cases he:(eget d p t i).2=0
  ·have:=(zqm he).1
   unfold entOk at this
   rw [if_pos hk] at this
   exact this
  ·exfalso
   unfold eget at hk he
   split at hk
   ·cases hk
   ·rename_i h0
    rw [if_neg h0] at he
    split at hk
    ·cases hk
    ·rename_i h2
     rw [if_neg h2] at he
     unfold entT at hk he
     split at hk
     ·cases hk
     ·rename_i h1
      rw [if_neg h1] at he
      exact he rfl
 unfold elook at h ⊢
 split at h
 ·cases h
 split at h
 ·cases h
 split at h
 ·cases h
 split at h
 ·cases h
 rename_i h1 h2 h3 h4
 rw [if_neg h1,if_neg h2,if_neg h3,if_neg h4]
 exact hk _ _ h
def cread (d:Disk) (l1 guest:Int):Txt×Int:=
 if (elook d p0 l1 guest).2≠0 then ([],(elook d p0 l1 guest).2) else if (elook d p0 l1 guest).1.kind=1 then zbx d (elook d p0 l1 guest).1.loc else (List.replicate 128 0,0)
theorem zos (d:Disk) (l1 guest:Int) (h:DiskF d):AC 23 [diskA d,.d (.int .i64 l1),.d (.int .i64 guest)] (.tup [.d (.str (cread d l1 guest).1),.d (.int .i64 (cread d l1 guest).2)]):=by
 refine fbod Tryz.func23 Tryz.ntmps23 (fun base=>?_)
 have hdp:DP d p0:=⟨h,zdc⟩
 have hk1:(elook d p0 l1 guest).1.kind=1→zM (elook d p0 l1 guest).1.loc=true:=zf3
 (have tk:=za zah <| za zhB <| zb Tryz.prog;repeat' (first|(refine hK _ ?_;clear hK K)|refine wa fun K hK=>?_|refine wb ?_|refine wc ?_ ?_|exact we|refine fun (hc:_=(_:Bool))=>?_|clear hK K))
 ·rw [cread,if_pos (bneP hc)]
 ·exact hk1 (beqP hc)
 ·rename_i hc0
  rw [cread,if_neg (bneN hc0),if_pos (beqP hc)]
 ·rfl
 ·rename_i hc0
  rw [cread,if_neg (bneN hc0),if_neg (beqN hc)]
  rfl
@[go_sem] noncomputable def zr:Ent Tryz.prog 23:= .m3 zq (intT .i64) (intT .i64) zos
def cdone (x:Img) (p:Plan):Img×Int:=
 if (jcommit x.disk x.jour p).2.2≠0 then ({ x with disk:=(jcommit x.disk x.jour p).1,broken:=true },(jcommit x.disk x.jour p).2.2)
 else ({ x with disk:=(jcommit x.disk x.jour p).1,jour:=(jcommit x.disk x.jour p).2.1 },0)
theorem zot (x:Img) (p:Plan) (hp:ImgOk x∧DiskF x.disk∧pfit p=true∧0≤x.jour.seq∧x.jour.seq<18446744073709551616):AC 43 [imgA x,planA p] (.tup [imgA (cdone x p).1,.d (.int .i64 (cdone x p).2)]):=by
 obtain ⟨h,hd,hf,h0,h1⟩:=hp
 refine fbod Tryz.func43 Tryz.ntmps43 (fun base=>?_)
 (have tk:=za zjm <| zb Tryz.prog;repeat' (first|(refine hK _ ?_;clear hK K)|refine wa fun K hK=>?_|refine wb ?_|refine wc ?_ ?_|exact we|refine fun (hc:_=(_:Bool))=>?_|clear hK K))
 ·rw [cdone,if_pos (bneP hc)]
 ·rw [cdone,if_neg (bneN hc)]
@[go_sem] noncomputable def zn:Ent Tryz.prog 43:= .m2 zbp zw zot
end Go.Aw
