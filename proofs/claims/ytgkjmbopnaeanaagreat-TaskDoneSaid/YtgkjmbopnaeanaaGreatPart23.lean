/-
  Parts of the proof: TxnE, JourC (short names; the readable texts lie in the repo, under wip).
-/
import Derived.Test.YtgkjmbopnaeanaaGreatPart19
import Derived.Test.YtgkjmbopnaeanaaGreatPart20
set_option maxRecDepth 100000
set_option maxHeartbeats 2000000
set_option linter.unusedSimpArgs false
set_option linter.unusedVariables false
namespace Go.Aw
open Go Go.Proofs
theorem zsw (p:Plan) (_:True):AC 266 [planA p] (.fn (.func 280) [] [.dp [.d (.sl 1 (p.targets.map intD)),.d (.sl 1 (p.texts.map strD))]]):=by
 refine fbod Tryz.func266 Tryz.ntmps266 (fun base=>?_)
 refine' zc fx
@[go_sem] noncomputable def zf5:Ent Tryz.prog 266:= .m1 zN zsw
@[simp] theorem tsum_nil (c:Int):tsum c []=c:=rfl
def unB (x:List AV):Txt:=match x with| [.d (.str s)]=>s|_=> []
theorem znK (l:List Txt):(l.map bItem).map unB=l:=by
 rw [List.map_map]
 conv=>rhs;rw [← List.map_id l]
 exact List.map_congr_left (fun c _=>rfl)
theorem znL (t:Tx) (hp:PlanOk t.plan∧pfit t.plan=true∧t.plan.targets.length≠0∧0≤t.seq∧t.seq<18446744073709551616):AC 237 [txA t] (.tup [.d (.sl 1 ((zcb t.seq t.plan).map strD)),.d (.int .i64 0)]):=by
 obtain ⟨hp,hf,hn,h0,h1⟩:=hp
 refine fbod Tryz.func237 Tryz.ntmps237 (fun base=>?_)
 obtain ⟨hl,h24,h64⟩:=zaJ hf
 have hrng:=zo4 hf
 have hn0:((t.plan.targets.length:Int)==0)=false:=by rw [beq_eq_false_iff_ne];omega
 have hne:t.plan.targets≠ []:=by intro e;rw [e] at hn;exact hn rfl
 have hp8:putS8 t.seq 8=putN t.seq.toNat 8:=by rw [putS8,if_neg (by omega)];rfl
 have hp2:putS8 (t.plan.targets.length:Int) 2=putN t.plan.targets.length 2:=by rw [putS8,if_neg (by omega)];rfl
 have hw5:IntKind.i64.wrap (65535 - (t.plan.targets.length:Int))=((65535 - t.plan.targets.length:Nat):Int):=by rw [ze (by omega) (by omega)];omega
 have hp5:putS8 ((65535 - t.plan.targets.length:Nat):Int) 2=putN (65535 - t.plan.targets.length) 2:=by rw [putS8,if_neg (by omega)];rfl
 have hl8:=zu t.seq.toNat 8
 have hl2:=zu t.plan.targets.length 2
 have hl5:=zu (65535 - t.plan.targets.length) 2
 refine' walkR (zq hf hn0 hp8 hp2 hl8 (zk hl2 @List.length_append.{0})) (za zie <| za zis <| za zfj <| za zfk <| za zdB <| za zfa <| za zbV <| za zf5 <| zb _)
 obtain ⟨H,hH⟩:∃H,H=putN t.seq.toNat 8++putN t.plan.targets.length 2:=⟨_,rfl⟩
 have hHl:H.length=10:=by rw [hH,List.length_append,hl8,hl2]
 rw [← hH]
 have hc0:0≤sumOf 0 H∧sumOf 0 H≤4294967295:=zf3 0 H (by omega) (by omega)
 obtain ⟨I,hI⟩:∃I:List (List AV)→AHeap×Option (List (List AV)),I=fun xs=>([(3,.var [.d (.int .u32 (tsum (sumOf 0 H) (xs.map unB)))]),(2,.var [.osl 1 1 (xs.length+1) 0 (xs.length+1)]),(1,.arr 1 ([.str []]::(xs.map unB).map strD)),(0,.var [.d (.int .u64 t.seq),.d (.sl 1 (t.plan.targets.map intD)),.d (.sl 1 (t.plan.texts.map strD))])],some []):=⟨_,rfl⟩
 obtain ⟨G,hG⟩:∃G:List (List AV)→Prop,G=fun _=>True:=⟨_,rfl⟩
 obtain ⟨J,hJ⟩:∃J:Code→AHeap→Option (List (List AV))→Prop,J=fun c h g=>False:=⟨_,rfl⟩
 have hB64:∀s∈tbody t.plan,s.length=64:=zik hf
 have hBl:(tbody t.plan).length≤26:=by
  have:(trows t.plan.targets).length≤2:=by unfold trows;split<;>simp
  rw [tbody,List.length_append]
  omega
 refine zbz 100 G I J (zkB t.plan hp h24 hne hrng) (by simp only [go_sem,aeq,aeq.aeqF,simprocAttr]) rfl (z2 rfl) (by simp [cxOf,cxY]) rfl (by rw [hG];first|trivial|rfl|simp) (by rw [hI];simp only [AS.le,leT,leH,zf,AsgK,AV.le,AV.leL,AObj.le,inH,idsT,idsH,AV.ids,AV.idsL,AV.idsR,AObj.ids,lk,hget,go_sem,aeq,aeq.aeqF,simprocAttr]<;>simp [AV.leL,AV.le]) (by rw [hI];simp only [AS.le,leT,leH,zf,AsgK,AV.le,AV.leL,AObj.le,inH,idsT,idsH,AV.ids,AV.idsL,AV.idsR,AObj.ids,lk,hget,go_sem,aeq,aeq.aeqF,simprocAttr]<;>simp) (by rw [hI]<;>rfl) (by intro x hx;obtain ⟨q,_,rfl⟩:=List.mem_map.1 hx;rfl) (by intro t ht;simp at ht;first|(rcases ht with rfl|rfl<;>simp [cxOf,cxY]<;>done)|(subst ht;simp [cxOf,cxY])) ?_ ?_ ?_
 ·intro xs x hpre hgd l1 r1
  obtain ⟨ys,s,zs,rfl,rfl,hzl⟩:=zdT hpre
  have hs64:=hB64 s (by rw [hzl];simp)
  have hyl:ys.length≤26:=by rw [hzl,List.length_append] at hBl;omega
  simp only [bItem]
  refine aw_le ⟨[(33,true,.d (.str s)),(6,true,.vp 2 0),(7,true,.vp 3 0)],[(3,.var [.d (.int .u32 (tsum (sumOf 0 H) ys))]),(2,.var [.osl 1 1 (ys.length+1) 0 (ys.length+1)]),(1,.arr 1 ([.str []]::ys.map strD)),(0,.var [.d (.int .u64 t.seq),.d (.sl 1 (t.plan.targets.map intD)),.d (.sl 1 (t.plan.texts.map strD))])],some []⟩ (by rw [hI];simp only [znK,List.length_map];simp only [AS.le,leT,leH,zf,AsgK,AV.le,AV.leL,AObj.le,inH,idsT,idsH,AV.ids,AV.idsL,AV.idsR,AObj.ids,lk,hget,go_sem,aeq,aeq.aeqF,simprocAttr]) ?_
  have hsn:(ys.map bItem++ [[AV.d (.str s)]]).map unB=ys++ [s]:=by rw [List.map_append,znK];rfl
  refine' walkR (zk hI hsn) (za zie <| za zis <| za zfj <| za zfk <| za zdB <| za zfa <| za zbV <| za zf5 <| zb _)
  ·rw [hG];trivial
  ·rw [zlT];rfl
  ·simp
  ·rw [List.map_append];rfl
 ·intro _
  rw [hI]
  simp only [znK,List.length_map]
  have hbl:=zdD (tsum (sumOf 0 H) (tbody t.plan))
  refine' walkR (zr hp5 hw5 hl5) (za zie <| za zis <| za zfj <| za zfk <| za zdB <| za zfa <| za zbV <| za zf5 <| zb _)
  ·simp only [List.length_append,hHl,hl5,hbl];omega
  ·simp only [List.length_append,hHl,hl5,hbl];omega
  ·rw [hH]
   simp [zcb,ttop,thead,zvK,strD]
 ·rw [hJ]
  rintro c h3 g3 h
  exact h.elim
@[go_sem] noncomputable def zcE:Ent Tryz.prog 237:= .m1 txA_T znL
open Go Go.Proofs
def runD:List (Disk→Disk×Int)→Disk→Disk×Int
 | [],d=>(d,0)
 |f::r,d=>if (f d).2≠0 then f d else runD r (f d).1
def zcF (A:Int) (L:List Txt) (p:Plan):List (Disk→Disk×Int):= [dflush,fun d=>layL d (numF A L),dflush,fun d=>play d p]
def zpf (A:Int) (L:List Txt) (p:Plan):List (List AV):= [[.fn (.func 167) [] []],[.fn (.func 269) [] [.dp [.d (.sl 1 (L.map strD))],.dp [.d (.int .i64 A)]]],[.fn (.func 167) [] []],[.fn (.func 270) [] [.dp [.d (.sl 1 (p.targets.map intD)),.d (.sl 1 (p.texts.map strD))]]]]
def wkD (d:Disk) (e:Int):List AV:= [.d (.str d.data),.d (.sl 2 (d.cache.map putD)),.d (.int .i64 d.fuse),.d (.bool d.off),.d (.sl 1 (d.bad.map intD)),.d (.int .i64 e)]
attribute [go_sem] wkD zpf
theorem DiskF.play {d:Disk} (h:DiskF d) (p:Plan):DiskF (play d p).1:=DiskF.layL _ h
theorem zxC (d:Disk) (A:Int) (L:List Txt) (p:Plan) (hd:DiskF d) (hp:PlanOk p) (hl:p.targets.length=p.texts.length) (hn:L.length≤100) (h0:0≤A) (h1:A≤100):
  ACall Tryz.prog 240 6 [.vp 5 0,.asl 1 (zpf A L p)] [(5,.var (wkD d 0))] (fun r h'=>∃ob',h'= [(5,ob')]∧r= .tup []∧ob'= .var (wkD (runD (zcF A L p) d).1 (runD (zcF A L p) d).2)):=by
 refine bod Tryz.func240 Tryz.ntmps240 (fun base=>?_)
 refine' walkW fx (za za4 <| za zcV <| za zcU <| zb _)
 refine zo (fun q: { q:Nat×Disk // q.1≤4∧DiskF q.2∧runD (zcF A L p) d=runD ((zcF A L p).drop q.1) q.2 } =>⟨[(0,true,.vp 5 0),(6,true,.asl 1 (zpf A L p)),(7,true,.d (.int .i64 4)),(8,true,.d (.int .i64 q.1.1))],[(5,.var (wkD q.1.2 0))],some []⟩) (fun q=>4 - q.1.1) ⟨(0,d),Nat.zero_le _,hd,rfl⟩ le1 (fun q=>?_)
 obtain ⟨⟨k,x⟩,hk,hx,hr⟩:=q
 simp only at hk hx hr ⊢
 have hxo:=hx.ok
 have hxp:=hx.puts
 have h4:k=0∨k=1∨k=2∨k=3∨k=4:=by omega
 have hc0:((0:Nat):Int)=0:=rfl
 have hc1:((1:Nat):Int)=1:=rfl
 have hc2:((2:Nat):Int)=2:=rfl
 have hc3:((3:Nat):Int)=3:=rfl
 have hc4:((4:Nat):Int)=4:=rfl
 have ht1:Int.toNat 1=1:=rfl
 have ht2:Int.toNat 2=2:=rfl
 have ht3:Int.toNat 3=3:=rfl
 have hw1:IntKind.i64.wrap 1=1:=by decide
 have hw2:IntKind.i64.wrap 2=2:=by decide
 have hw3:IntKind.i64.wrap 3=3:=by decide
 have hw4:IntKind.i64.wrap 4=4:=by decide
 rcases h4 with rfl|rfl|rfl|rfl|rfl
 ·have hr':runD (zcF A L p) d=if (dflush x).2≠0 then dflush x else runD ((zcF A L p).drop 1) (dflush x).1:=hr
  have hxn:DiskF (dflush x).1:=hx.flush
  refine' walkW (zk hc0 hw1) (za za4 <| za zcV <| za zcU <| zb _)
  ·have hc:(dflush x).2≠0:=by simpa using hc
   rw [if_pos hc] at hr'
   exact ⟨_,rfl,by rw [hr']⟩
  ·have hc:(dflush x).2=0:=by simpa using hc
   rw [if_neg (by rw [hc];decide)] at hr'
   exact ⟨⟨(1,(dflush x).1),by show (_:Nat)≤4;omega,hxn,hr'⟩,by simp only [AS.le,leT,leH,zf,AsgK,AV.le,AV.leL,AObj.le,inH,idsT,idsH,AV.ids,AV.idsL,AV.idsR,AObj.ids,lk,hget,go_sem,aeq,aeq.aeqF,simprocAttr,hw1,hc]<;>and_intros<;>rfl,by simp⟩
 ·have hr':runD (zcF A L p) d=if (layL x (numF A L)).2≠0 then layL x (numF A L) else runD ((zcF A L p).drop 2) (layL x (numF A L)).1:=hr
  have hxn:DiskF (layL x (numF A L)).1:=DiskF.layL _ hx
  refine' walkW (zr hc1 hw2 ht1) (za za4 <| za zcV <| za zcU <| zb _)
  ·have hc:(layL x (numF A L)).2≠0:=by simpa using hc
   rw [if_pos hc] at hr'
   exact ⟨_,rfl,by rw [hr']⟩
  ·have hc:(layL x (numF A L)).2=0:=by simpa using hc
   rw [if_neg (by rw [hc];decide)] at hr'
   exact ⟨⟨(2,(layL x (numF A L)).1),by show (_:Nat)≤4;omega,hxn,hr'⟩,by simp only [AS.le,leT,leH,zf,AsgK,AV.le,AV.leL,AObj.le,inH,idsT,idsH,AV.ids,AV.idsL,AV.idsR,AObj.ids,lk,hget,go_sem,aeq,aeq.aeqF,simprocAttr,hw2,hc]<;>and_intros<;>rfl,by simp⟩
 ·have hr':runD (zcF A L p) d=if (dflush x).2≠0 then dflush x else runD ((zcF A L p).drop 3) (dflush x).1:=hr
  have hxn:DiskF (dflush x).1:=hx.flush
  refine' walkW (zr hc2 hw3 ht2) (za za4 <| za zcV <| za zcU <| zb _)
  ·have hc:(dflush x).2≠0:=by simpa using hc
   rw [if_pos hc] at hr'
   exact ⟨_,rfl,by rw [hr']⟩
  ·have hc:(dflush x).2=0:=by simpa using hc
   rw [if_neg (by rw [hc];decide)] at hr'
   exact ⟨⟨(3,(dflush x).1),by show (_:Nat)≤4;omega,hxn,hr'⟩,by simp only [AS.le,leT,leH,zf,AsgK,AV.le,AV.leL,AObj.le,inH,idsT,idsH,AV.ids,AV.idsL,AV.idsR,AObj.ids,lk,hget,go_sem,aeq,aeq.aeqF,simprocAttr,hw3,hc]<;>and_intros<;>rfl,by simp⟩
 ·have hr':runD (zcF A L p) d=if (play x p).2≠0 then play x p else runD ((zcF A L p).drop 4) (play x p).1:=hr
  have hxn:DiskF (play x p).1:=hx.play p
  refine' walkW (zr hc3 hw4 ht3) (za za4 <| za zcV <| za zcU <| zb _)
  ·have hc:(play x p).2≠0:=by simpa using hc
   rw [if_pos hc] at hr'
   exact ⟨_,rfl,by rw [hr']⟩
  ·have hc:(play x p).2=0:=by simpa using hc
   rw [if_neg (by rw [hc];decide)] at hr'
   exact ⟨⟨(4,(play x p).1),by show (_:Nat)≤4;omega,hxn,hr'⟩,by simp only [AS.le,leT,leH,zf,AsgK,AV.le,AV.leL,AObj.le,inH,idsT,idsH,AV.ids,AV.idsL,AV.idsR,AObj.ids,lk,hget,go_sem,aeq,aeq.aeqF,simprocAttr,hw4,hc]<;>and_intros<;>rfl,by simp⟩
 ·refine' walkW hc4 (za za4 <| za zcV <| za zcU <| zb _)
  have hr':runD (zcF A L p) d=(x,0):=hr
  exact ⟨_,rfl,by rw [hr']⟩
theorem zsz (d:Disk) (A:Int) (L:List Txt) (p:Plan) (j:Jour):(if (dflush d).2≠0 then ((dflush d).1,j,(dflush d).2) else jtail (dflush d).1 j p L A)=(if (runD (zcF (6+A) L p) d).2≠0 then ((runD (zcF (6+A) L p) d).1,j,(runD (zcF (6+A) L p) d).2) else ((runD (zcF (6+A) L p) d).1,⟨j.seq+1,A+L.length⟩,0)):=by
 simp only [zcF,runD,jtail]
 repeat' split
 all_goals simp_all
theorem znM (d:Disk) (j:Jour) (p:Plan) (hp:DiskF d∧pfit p=true∧0≤j.seq∧j.seq<18446744073709551616):AC 201 [diskA d,jourA j,planA p] (.tup [diskA (jcommit d j p).1,jourA (jcommit d j p).2.1,.d (.int .i64 (jcommit d j p).2.2)]):=by
 obtain ⟨hd,hf,h0,h1⟩:=hp
 refine fbod Tryz.func201 Tryz.ntmps201 (fun base=>?_)
 obtain ⟨hl,h24,h64⟩:=zaJ hf
 have hpo:PlanOk p:=⟨by omega,by omega⟩
 have hdo:=hd.ok
 have hdp:=hd.puts
 by_cases hn:p.targets.length=0
 ·have hb:((p.targets.length:Int)==0)=true:=by rw [hn];rfl
  refine' walkW hb (za zcE <| za zdE <| za zdc <| za zeo <| za zep <| zb _)
  rw [jcommit,if_pos hn]
 have hb:((p.targets.length:Int)==0)=false:=by rw [beq_eq_false_iff_ne];omega
 by_cases hs:4611686018427387904≤j.seq
 ·have hb2:decide (4611686018427387904≤j.seq)=true:=decide_eq_true hs
  refine' walkW (zk hb hb2) (za zcE <| za zdE <| za zdc <| za zeo <| za zep <| zb _)
  rw [jcommit,if_neg hn,if_pos hs]
 have hb2:decide (4611686018427387904≤j.seq)=false:=decide_eq_false hs
 obtain ⟨htl,ht64⟩:=zgU j.seq hf
 have hjr:=zgT j.pos (zcb j.seq p).length
 have hjc:jcommit d j p=if (dflush d).2≠0 then ((dflush d).1,j,(dflush d).2) else jtail (dflush d).1 j p (zcb j.seq p) (zdb j.pos (zcb j.seq p).length):=by rw [jcommit,if_neg hn,if_neg hs]
 rw [zsz] at hjc
 obtain ⟨L,hL⟩:∃L,L=zcb j.seq p:=⟨_,rfl⟩
 rw [← hL] at htl ht64 hjr hjc
 obtain ⟨A,hA⟩:∃A,A=zdb j.pos L.length:=⟨_,rfl⟩
 rw [← hA] at hjr hjc
 have hw6:IntKind.i64.wrap (6+A)=6+A:=ze (by omega) (by omega)
 refine' zh6 (zbh 9) (zS hb hb2 hL.symm hA.symm) (za zcE <| za zdE <| za zdc <| za zeo <| za zep <| zb _)
 obtain ⟨X,hX⟩:∃X,X=runD (zcF (6+A) L p) d:=⟨_,rfl⟩
 have hdo2:=zxC d (6+A) L p hd hpo hl (by omega) (by omega) (by omega)
 rw [← hX] at hdo2 hjc
 refine' zhe (ownsL [0]) hw6 (za zcE <| za zdE <| za zdc <| za zeo <| za zep <| zb _)
 refine (hdo2.one (fl':=0) rfl rfl (z2 rfl) rfl (by simp [AObj.ids,AV.idsL,AV.ids,wkD]) (by simp [AV.idsL,AV.ids,AV.idsR,zpf]) (by omega)).mono ?_
 rintro r h' ⟨ob',⟨rfl,rfl⟩,rfl⟩
 have hws:IntKind.u64.wrap (j.seq+1)=j.seq+1:=zT (by omega) (by omega)
 have hwl:IntKind.i64.wrap (A+(L.length:Int))=A+L.length:=ze (by omega) (by omega)
 simp only [go_sem,aeq,aeq.aeqF,simprocAttr,wkD]
 refine hK _ ?_
 clear hK K
 refine' walkW (zk hws hwl) (za zcE <| za zdE <| za zdc <| za zeo <| za zep <| zb _)
 ·have hc:X.2≠0:=by simpa using hc
  rw [hjc,if_pos hc]
 ·have hc:¬X.2≠0:=by simpa using hc
  rw [hjc,if_neg hc]
@[go_sem] noncomputable def zkC:Ent Tryz.prog 201:= .m3 zA zkp zN znM
end Go.Aw
