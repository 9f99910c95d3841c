/-
 Counts and what is free: the program's functions.
-/
import Derived.Test.YtgkjmbopnaeanaaGreatPart18
set_option maxRecDepth 100000
set_option maxHeartbeats 2000000
set_option linter.unusedSimpArgs false
set_option linter.unusedVariables false
namespace Go.Aw
open Go Go.Proofs
theorem zsH (d:Disk) (p:Plan) (k:Int) (h:DP d p):AC 193 [diskA d,planA p,.d (.int .i64 k)] (.tup [.d (.int .i64 (rget d p k).1),.d (.int .i64 (rget d p k).2)]):=by
 refine bod Tryz.func193 Tryz.ntmps193 (fun base=>?_)
 have h1:=h.dok
 have h2:=h.pok
 have h3:=h.plen
 by_cases hk:zV k=true
 ·have hdec:(!zV k)=false:=by rw [hk];rfl
  obtain ⟨hk0,hk1⟩:=hostOk_iff.1 hk
  by_cases he:(plook d p (87+k / 32)).2=0
  ·have hb:((plook d p (87+k / 32)).2 !=0)=false:=by simpa using he
   have h64:=zeG h he
   have hts:=zfc (s:=((plook d p (87+k / 32)).1.drop (2*(k % 32)).toNat)) (z:=2) 2 rfl (by omega) (by omega) (by rw [List.length_drop];omega)
   have hr:=zfC d p k
   have hrg:rget d p k=(((takeN (((plook d p (87+k / 32)).1.drop (2*(k % 32)).toNat).take 2):Nat):Int),0):=by
    rw [rget,if_neg (by rw [hdec];exact Bool.false_ne_true),if_neg (by simpa using he)]
   have hwr:IntKind.i64.wrap (rget d p k).1=(rget d p k).1:=ze (by omega) (by omega)
   rw [hrg] at hwr
   simp only at hwr
   have hld:((plook d p (87+k / 32)).1.drop (2*(k % 32)).toNat).length≤64:=by rw [List.length_drop];omega
   have htk:List.take (plook d p (87+k / 32)).1.length (plook d p (87+k / 32)).1=(plook d p (87+k / 32)).1:=List.take_length
   refine' walkW (zq @zct hdec hb hts hwr htk) (za zfy <| za zaE <| za zca <| zb _)
   rw [hrg]
  ·have hb:((plook d p (87+k / 32)).2 !=0)=true:=by simpa using he
   refine' walkW (zr @zct hdec hb) (za zfy <| za zaE <| za zca <| zb _)
   rw [rget,if_neg (by rw [hdec];exact Bool.false_ne_true),if_pos he]
 ·have hdec:(!zV k)=true:=by simpa using hk
  refine' walkW (zk @zct hdec) (za zfy <| za zaE <| za zca <| zb _)
  rw [rget,if_pos hdec]
@[go_sem] noncomputable def zp:Ent Tryz.prog 193:= .m3 zA zN (intT .i64) zsH
theorem zsI (d:Disk) (p:Plan) (k by_:Int) (h:DP d p):AC 221 [diskA d,planA p,.d (.int .i64 k),.d (.int .i64 by_)] (.tup [planA (radd d p k by_).1,.d (.int .i64 (radd d p k by_).2)]):=by
 refine fbod Tryz.func221 Tryz.ntmps221 (fun base=>?_)
 have h1:=h.dok
 have h2:=h.puts
 have h3:=h.p
 have hr:=zfC d p k
 by_cases he:(rget d p k).2=0
 ·have hb:((rget d p k).2 !=0)=false:=by simpa using he
  obtain ⟨hk0,hk1⟩:=znr he
  have hw1:IntKind.i64.wrap (0 - (rget d p k).1)= -(rget d p k).1:=by rw [ze (by omega) (by omega)];omega
  have hw2:IntKind.i64.wrap (65535 - (rget d p k).1)=65535 - (rget d p k).1:=ze (by omega) (by omega)
  by_cases hc:by_< -(rget d p k).1∨65535 - (rget d p k).1<by_
  ·have hdec:(decide (by_< -(rget d p k).1)||decide (65535 - (rget d p k).1<by_))=true:=by simpa using hc
   refine' walkW (zS hb hw1 hw2 hdec) (za zp <| za zfy <| za zbH <| za zbu <| zb _)
   rw [radd,if_neg (by simpa using he),if_pos hc]
  ·have hdec:(decide (by_< -(rget d p k).1)||decide (65535 - (rget d p k).1<by_))=false:=by simpa using hc
   have hw3:IntKind.i64.wrap ((rget d p k).1+by_)=(rget d p k).1+by_:=ze (by omega) (by omega)
   have hw4:IntKind.u64.wrap ((rget d p k).1+by_)=(rget d p k).1+by_:=zT (by omega) (by omega)
   have hpl:=zu ((rget d p k).1+by_).toNat 2
   refine' walkW (zq hb hw1 hw2 hw3 hw4 (zk hdec @zhj)) (za zp <| za zfy <| za zbH <| za zbu <| zb _)
   all_goals first|(rw [hpl];decide)|skip
   rw [radd,if_neg (by simpa using he),if_neg hc]
 ·have hb:((rget d p k).2 !=0)=true:=by simpa using he
  refine' walkW hb (za zp <| za zfy <| za zbH <| za zbu <| zb _)
  rw [radd,if_pos he]
@[go_sem] noncomputable def zbw:Ent Tryz.prog 221:= .m4 zA zN (intT .i64) (intT .i64) zsI
def freeL (d:Disk) (p:Plan):Nat→Int→List (Int×Int)
 |0,_=> []
 |m+1,k=>if (rget d p k).2≠0 then [(0,(rget d p k).2)] else if (rget d p0 k).2≠0 then [(0,(rget d p0 k).2)]
  else if (rget d p k).1=0∧(rget d p0 k).1=0 then (k,0)::freeL d p m (k+1) else freeL d p m (k+1)
theorem ziw (d:Disk) (p:Plan):∀ (m:Nat) (k:Int),zfb d p m k=(freeL d p m k).headD (0,17)
 |0,k=>rfl
 |m+1,k=>by
  rw [zfb,freeL]
  repeat' split
  all_goals first|rfl|exact ziw d p m (k+1)
def freeI (q:Int×Int):List AV:= [.d (.int .i64 q.1),.d (.int .i64 q.2)]
def geomC (g:Geom):List AV:= [.d (.int .i64 g.guest),.d (.int .i64 g.host)]
attribute [go_sem] geomC
theorem zuO (d:Disk) (p:Plan) (g:Geom) (_:True):AC 253 [diskA d,planA p,geomA g] (.fn (.func 276) [] [.dp (geomC g),.dp (planC p),.dp (diskC d)]):=by
 refine fbod Tryz.func253 Tryz.ntmps253 (fun base=>?_)
 refine' zc fx
@[go_sem] noncomputable def zfG:Ent Tryz.prog 253:= .m3 zA zN zdl zuO
abbrev Fst (d:Disk) (p:Plan) (g:Geom):= { q:Nat×List (List AV) // (q.1:Int)≤max g.host 0∧q.2++(freeL d p (g.host.toNat - q.1) q.1).map freeI=(freeL d p g.host.toNat 0).map freeI }
theorem znP (d:Disk) (p:Plan) (g:Geom) (h:DP d p) (hg:g.host≤1000000):AIter Tryz.prog 276 100 [] [.dp [.d (.int .i64 g.guest),.d (.int .i64 g.host)],.dp [.d (.sl 1 (p.targets.map intD)),.d (.sl 1 (p.texts.map strD))],.dp [.d (.str d.data),.d (.sl 2 (d.cache.map putD)),.d (.int .i64 d.fuse),.d (.bool d.off),.d (.sl 1 (d.bad.map intD))]] [] ((freeL d p g.host.toNat 0).map freeI) (fun gg h'=>(∀xs,gg=some xs→xs=(freeL d p g.host.toNat 0).map freeI)∧h'= []):=by
 refine itr Tryz.func276 Tryz.ntmps276 (fun base y=>?_)
 refine ze9 ?_
 refine' zaz fx
 have hz:=h.zero
 have hz0:p0=Plan.mk [] []:=rfl
 rw [hz0] at hz
 refine zo (fun q:Fst d p g=>⟨[(0,true,.fn (.yield y.yl) [] []),(1,true,.dp [.d (.int .i64 g.guest),.d (.int .i64 g.host)]),(2,true,.dp [.d (.sl 1 (p.targets.map intD)),.d (.sl 1 (p.texts.map strD))]),(3,true,.dp [.d (.str d.data),.d (.sl 2 (d.cache.map putD)),.d (.int .i64 d.fuse),.d (.bool d.off),.d (.sl 1 (d.bad.map intD))]),(12,true,.d (.int .i64 g.host)),(13,true,.d (.int .i64 q.1.1))],[],some q.1.2⟩) (fun q=>g.host.toNat - q.1.1) ⟨(0,[]),by show (_:Int)≤_;omega,rfl⟩ le1 (fun q=>?_)
 obtain ⟨⟨i,xs⟩,hi,hf⟩:=q
 simp only at hi hf ⊢
 by_cases hlt:(i:Int)<g.host
 ·have hcmp:decide ((i:Int)<g.host)=true:=decide_eq_true hlt
  have hwi:=zn (i:=i) (by omega)
  rw [show g.host.toNat - i=(g.host.toNat - (i+1))+1 by omega,freeL,hz0] at hf
  have hr1:=zfC d p i
  have hr2:=zfC d ⟨[],[]⟩ i
  refine' walkX hcmp (za zp <| zb _)
  refine zo (fun r: { r:Nat×Int // (r.1=0∧r.2=0)∨(r.1=1∧(rget d p i).2=0∧r.2=(rget d p i).1)∨(r.1=2∧(rget d p i).2=0∧(rget d ⟨[],[]⟩ i).2=0∧r.2=(rget d p i).1+(rget d ⟨[],[]⟩ i).1) } =>⟨[(0,true,.fn (.yield y.yl) [] []),(1,true,.dp [.d (.int .i64 g.guest),.d (.int .i64 g.host)]),(2,true,.dp [.d (.sl 1 (p.targets.map intD)),.d (.sl 1 (p.texts.map strD))]),(3,true,.dp [.d (.str d.data),.d (.sl 2 (d.cache.map putD)),.d (.int .i64 d.fuse),.d (.bool d.off),.d (.sl 1 (d.bad.map intD))]),(5,true,.d (.int .i64 i)),(6,true,.d (.int .i64 r.1.2)),(12,true,.d (.int .i64 g.host)),(13,true,.d (.int .i64 i)),(18,true,.osl 100 2 2 0 2),(19,true,.d (.int .i64 2)),(20,true,.d (.int .i64 r.1.1))],[(100,.arr 2 [[.sl 1 (p.targets.map intD),.sl 1 (p.texts.map strD)],[.sl 1 [],.sl 1 []]])],some xs⟩) (fun r=>2 - r.1.1) ⟨(0,0),.inl ⟨rfl,rfl⟩⟩ le1 (fun r=>?_)
  obtain ⟨⟨j,n⟩,hj⟩:=r
  simp only at hj ⊢
  have hc0:((0:Nat):Int)=0:=rfl
  have hc1:((1:Nat):Int)=1:=rfl
  have hc2:((2:Nat):Int)=2:=rfl
  have ht1:Int.toNat 1=1:=rfl
  have hw1:IntKind.i64.wrap 1=1:=by decide
  have hw2:IntKind.i64.wrap 2=2:=by decide
  rcases hj with ⟨rfl,rfl⟩|⟨rfl,he1,rfl⟩|⟨rfl,he1,he2,rfl⟩
  ·by_cases he:(rget d p i).2=0
   ·have hb:((rget d p i).2 !=0)=false:=by simpa using he
    have hwn:IntKind.i64.wrap (0+(rget d p i).1)=(rget d p i).1:=by rw [Int.zero_add];exact ze (by omega) (by omega)
    refine' walkX (zr hc0 hb hwn) (za zp <| zb _)
    exact ⟨⟨(1,(rget d p i).1),.inr (.inl ⟨rfl,he,rfl⟩)⟩,by simp only [AS.le,leT,leH,zf,AsgK,AV.le,AV.leL,AObj.le,inH,idsT,idsH,AV.ids,AV.idsL,AV.idsR,AObj.ids,lk,hget,go_sem,aeq,aeq.aeqF,simprocAttr,hw1]<;>and_intros<;>rfl,by simp⟩
   ·have hb:((rget d p i).2 !=0)=true:=by simpa using he
    rw [if_pos (by simpa using he)] at hf
    have hpr:(xs++ [[.d (.int .i64 0),.d (.int .i64 (rget d p i).2)]])<+:(freeL d p g.host.toNat 0).map freeI:=⟨[],by rw [← hf];simp [freeI]⟩
    refine' walkX (zk hc0 hb) (za zp <| zb _)
    rintro zs rfl
    rw [← hf]
    simp [freeI]
  ·by_cases he:(rget d ⟨[],[]⟩ i).2=0
   ·have hb:((rget d ⟨[],[]⟩ i).2 !=0)=false:=by simpa using he
    have hwn:IntKind.i64.wrap ((rget d p i).1+(rget d ⟨[],[]⟩ i).1)=(rget d p i).1+(rget d ⟨[],[]⟩ i).1:=ze (by omega) (by omega)
    refine' walkX (zS hc1 ht1 hb hwn) (za zp <| zb _)
    exact ⟨⟨(2,(rget d p i).1+(rget d ⟨[],[]⟩ i).1),.inr (.inr ⟨rfl,he1,he,rfl⟩)⟩,by simp only [AS.le,leT,leH,zf,AsgK,AV.le,AV.leL,AObj.le,inH,idsT,idsH,AV.ids,AV.idsL,AV.idsR,AObj.ids,lk,hget,go_sem,aeq,aeq.aeqF,simprocAttr,hw2]<;>and_intros<;>rfl,by simp⟩
   ·have hb:((rget d ⟨[],[]⟩ i).2 !=0)=true:=by simpa using he
    rw [if_neg (by rw [he1];decide),if_pos (by simpa using he)] at hf
    have hpr:(xs++ [[.d (.int .i64 0),.d (.int .i64 (rget d ⟨[],[]⟩ i).2)]])<+:(freeL d p g.host.toNat 0).map freeI:=⟨[],by rw [← hf];simp [freeI]⟩
    refine' walkX (zr hc1 ht1 hb) (za zp <| zb _)
    rintro zs rfl
    rw [← hf]
    simp [freeI]
  ·rw [if_neg (by rw [he1];decide),if_neg (by rw [he2];decide)] at hf
   by_cases hz1:(rget d p i).1=0∧(rget d ⟨[],[]⟩ i).1=0
   ·have hb:((rget d p i).1+(rget d ⟨[],[]⟩ i).1==0)=true:=by rw [beq_iff_eq];omega
    rw [if_pos hz1] at hf
    have hpr:(xs++ [[.d (.int .i64 i),.d (.int .i64 0)]])<+:(freeL d p g.host.toNat 0).map freeI:=⟨(freeL d p (g.host.toNat - (i+1)) (i+1)).map freeI,by rw [← hf];simp [freeI]⟩
    refine' walkX (zk hc2 hb) (za zp <| zb _)
    exact ⟨⟨(i+1,xs++ [freeI (i,0)]),by show ((i+1:Nat):Int)≤_;omega,by rw [← hf];simp [freeI]⟩,by simp only [AS.le,leT,leH,zf,AsgK,AV.le,AV.leL,AObj.le,inH,idsT,idsH,AV.ids,AV.idsL,AV.idsR,AObj.ids,lk,hget,go_sem,aeq,aeq.aeqF,simprocAttr,hwi,freeI],by simp;omega⟩
   ·have hb:((rget d p i).1+(rget d ⟨[],[]⟩ i).1==0)=false:=by rw [beq_eq_false_iff_ne];omega
    rw [if_neg hz1] at hf
    refine' walkX (zk hc2 hb) (za zp <| zb _)
    exact ⟨⟨(i+1,xs),by show ((i+1:Nat):Int)≤_;omega,by rw [← hf];simp⟩,lew,by simp;omega⟩
 ·have hcmp:decide ((i:Int)<g.host)=false:=decide_eq_false hlt
  refine' walkX hcmp (za zp <| zb _)
  rintro zs rfl
  rw [← hf,show g.host.toNat - i=0 by omega]
  simp [freeL]
theorem zuP (d:Disk) (p:Plan) (g:Geom) (hp:DP d p∧g.host≤1000000):AC 220 [diskA d,planA p,geomA g] (.tup [.d (.int .i64 (rfind d p g).1),.d (.int .i64 (rfind d p g).2)]):=by
 obtain ⟨h,hg⟩:=hp
 refine fbod Tryz.func220 Tryz.ntmps220 (fun base=>?_)
 refine' walkR fx (za zfG <| zb _)
 have hrf:rfind d p g=(freeL d p g.host.toNat 0).headD (0,17):=ziw d p _ _
 obtain ⟨I,hI⟩:∃I:List (List AV)→AHeap×Option (List (List AV)),I=fun xs=>([(4,.var [.d (.int .i64 17)]),(3,.var [.d (.int .i64 0)]),(2,.var [.d (.int .i64 g.guest),.d (.int .i64 g.host)]),(1,(.var [.d (.sl 1 (p.targets.map intD)),.d (.sl 1 (p.texts.map strD))])),(0,(.var [.d (.str d.data),.d (.sl 2 (d.cache.map putD)),.d (.int .i64 d.fuse),.d (.bool d.off),.d (.sl 1 (d.bad.map intD))]))],some []):=⟨_,rfl⟩
 obtain ⟨G,hG⟩:∃G:List (List AV)→Prop,G=fun xs=>(xs≠ []→False):=⟨_,rfl⟩
 obtain ⟨J,hJ⟩:∃J:Code→AHeap→Option (List (List AV))→Prop,J=fun c h gg=>c= .exit 0∧gg=some []∧h= [(4,.var [.d (.int .i64 (rfind d p g).2)]),(3,.var [.d (.int .i64 (rfind d p g).1)]),(2,.var [.d (.int .i64 g.guest),.d (.int .i64 g.host)]),(1,(.var [.d (.sl 1 (p.targets.map intD)),.d (.sl 1 (p.texts.map strD))])),(0,(.var [.d (.str d.data),.d (.sl 2 (d.cache.map putD)),.d (.int .i64 d.fuse),.d (.bool d.off),.d (.sl 1 (d.bad.map intD))]))]:=⟨_,rfl⟩
 refine zbz 100 G I J (znP d p g h hg) (by simp only [go_sem,aeq,aeq.aeqF,simprocAttr]) rfl (z2 rfl) (by simp [cxOf,cxY]) rfl (by rw [hG];first|trivial|rfl|simp) (by rw [hI];simp only [AS.le,leT,leH,zf,AsgK,AV.le,AV.leL,AObj.le,inH,idsT,idsH,AV.ids,AV.idsL,AV.idsR,AObj.ids,lk,hget,go_sem,aeq,aeq.aeqF,simprocAttr]<;>simp [AV.leL,AV.le]) (by rw [hI];simp only [AS.le,leT,leH,zf,AsgK,AV.le,AV.leL,AObj.le,inH,idsT,idsH,AV.ids,AV.idsL,AV.idsR,AObj.ids,lk,hget,go_sem,aeq,aeq.aeqF,simprocAttr]<;>simp) (by rw [hI]<;>rfl) (by intro x hx;obtain ⟨q,_,rfl⟩:=List.mem_map.1 hx;rfl) (by intro t ht;simp at ht;first|(rcases ht with rfl|rfl<;>simp [cxOf,cxY]<;>done)|(subst ht;simp [cxOf,cxY])) ?_ ?_ ?_
 ·intro xs x hpre hgd l1 r1
  rw [hG] at hgd
  obtain rfl:xs= []:=Classical.byContradiction hgd
  obtain ⟨ys,⟨a,e⟩,zs,hys,rfl,hzl⟩:=zdT hpre
  have hys0:ys= []:=by cases ys with|nil=>rfl|cons q r=>simp at hys
  subst hys0
  have hfe:rfind d p g=(a,e):=by rw [hrf,hzl];rfl
  simp only [freeI]
  refine aw_le ⟨[(14,true,.d (.int .i64 a)),(15,true,.d (.int .i64 e)),(8,true,.vp 3 0),(9,true,.vp 4 0)],[(4,.var [.d (.int .i64 17)]),(3,.var [.d (.int .i64 0)]),(2,.var [.d (.int .i64 g.guest),.d (.int .i64 g.host)]),(1,(.var [.d (.sl 1 (p.targets.map intD)),.d (.sl 1 (p.texts.map strD))])),(0,(.var [.d (.str d.data),.d (.sl 2 (d.cache.map putD)),.d (.int .i64 d.fuse),.d (.bool d.off),.d (.sl 1 (d.bad.map intD))]))],some []⟩ (by rw [hI];simp only [AS.le,leT,leH,zf,AsgK,AV.le,AV.leL,AObj.le,inH,idsT,idsH,AV.ids,AV.idsL,AV.idsR,AObj.ids,lk,hget,go_sem,aeq,aeq.aeqF,simprocAttr]) ?_
  refine' walkR hI (za zfG <| zb _)
  rw [hJ,hfe]
  exact ⟨rfl,rfl,rfl⟩
 ·intro hgd
  rw [hG] at hgd
  have hgd:=Classical.byContradiction hgd
  rw [hI]
  refine' walkR fx (za zfG <| zb _)
  have hfl:freeL d p g.host.toNat 0= []:=by simpa using hgd
  rw [hrf,hfl]
  rfl
 ·rw [hJ]
  rintro c h3 g3 ⟨rfl,rfl,rfl⟩
  refine' walkR fx (za zfG <| zb _)
@[go_sem] noncomputable def zqA:Ent Tryz.prog 220:= .m3 zA zN zdl zuP
theorem zuQ (d:Disk) (p:Plan) (g:Geom) (hp:DP d p∧g.host≤1000000):AC 190 [diskA d,planA p,geomA g] (.tup [planA (rtake d p g).1,.d (.int .i64 (rtake d p g).2.1),.d (.int .i64 (rtake d p g).2.2)]):=by
 obtain ⟨h,hg⟩:=hp
 refine fbod Tryz.func190 Tryz.ntmps190 (fun base=>?_)
 refine' walkW fx (za zqA <| za zbw <| zb _)
 all_goals simp_all [rtake]
@[go_sem] noncomputable def zL:Ent Tryz.prog 190:= .m3 zA zN zdl zuQ
end Go.Aw
