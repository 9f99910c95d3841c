/-
  Parts of the proof: PlanF, PlanG, TxnA, TxnB, TxnC (short names; the readable texts lie in the repo, under wip).
-/
import Derived.Test.YtbmlikkofegdeaaGreatDoorPiece23
import Derived.Test.YtbmlikkofegdeaaGreatDoorPiece17
import Derived.Test.YtbmlikkofegdeaaGreatDoorPiece19
import Derived.Test.YtbmlikkofegdeaaGreatDoorPiece20
import Derived.Test.YtbmlikkofegdeaaGreatDoorPiece21
set_option maxRecDepth 100000
set_option maxHeartbeats 2000000
set_option linter.unusedSimpArgs false
set_option linter.unusedVariables false
namespace Go.Aw
open Go Go.Proofs
theorem znW (p:Plan) (_:True):AC 300 [planA p] (.fn (.func 309) [] [.dp (planC p)]):=by refine fbod Tryz.func300 Tryz.ntmps300 (λbase=>?_);refine' zc fx
@[go_sem] noncomputable def zdt:Ent Tryz.prog 300:= .m1 zw znW
def zcC (q:Int×Txt):List AV:= [.d (.int .i64 q.1),.d (.str q.2)]
def unI:List AV->Int×Txt
 | [.d (.int _ n),.d (.str s)]=>(n,s)
 |_=>(0,[])
theorem zeW (ys:List (Int×Txt)):(ys.map zcC).map unI=ys:=by rw [List.map_map];exact List.map_id'' (λ_=>rfl) ys
abbrev Sst (p:Plan):= { q:Nat×List (List AV) // q.1<=p.targets.length/\q.2++((p.targets.zip p.texts).drop q.1).map zcC=(p.targets.zip p.texts).map zcC }
theorem ziM (p:Plan) (hp:PlanOk p) (hl:p.targets.length=p.texts.length):AIter Tryz.prog 309 100 [] [.dp (planC p)] [] ((p.targets.zip p.texts).map zcC) (λg h'=>(∀xs,g=some xs->xs=(p.targets.zip p.texts).map zcC)/\h'= []):=by
 refine itr Tryz.func309 Tryz.ntmps309 (λbase y=>?_);refine' z7 fx;have h1:=hp.targets;refine zq (λq:Sst p=>⟨[(0,true,.fn (.yield y.yl) [] []),(1,true,.dp [.d (.sl 1 (p.targets.map intD)),.d (.sl 1 (p.texts.map strD))]),(6,true,.d (.sl 1 (p.targets.map intD))),(7,true,.d (.int .i64 p.targets.length)),(8,true,.d (.int .i64 q.1.1))],[],some q.1.2⟩) (λq=>p.targets.length - q.1.1) ⟨(0,[]),Nat.zero_le _,rfl⟩ le1 (λq=>?_);obtain ⟨⟨i,xs⟩,hi,hf⟩:=q;simp only at hi hf ⊢;rcases zP intD p.targets i hi with ⟨m,hq,hlt,hcmp,hrow,hdr,htk⟩|⟨hend,hcmp⟩
 ·obtain ⟨s,hq'⟩:=zas (l:=p.texts) (i:=i) (by omega);have hrow':=zco (g:=strD) hq';simp only [intD] at hrow;simp only [strD] at hrow';have hwi:=zr (i:=i) (by omega);have hcmp':decide ((i:Int)<(p.texts.length:Int))=true:=by rw [<-hl];exact hcmp
  have hz:(p.targets.zip p.texts)[i]?=some (m,s):=List.getElem?_zip_eq_some.2 ⟨hq,hq'⟩;rw [zcQ hz,List.map_cons] at hf;have hpre:(xs++ [zcC (m,s)])<+:(p.targets.zip p.texts).map zcC:=by rw [<-hf];simp
  simp only [zcC] at hpre;refine' z7 (zbj hcmp hcmp' hrow hrow' natC);exact ⟨⟨(i+1,xs++ [zcC (m,s)]),by omega,by rw [<-hf];simp⟩,by simp only [AS.le,leT,leH,zf,AsgK,AV.le,AV.leL,AObj.le,inH,idsT,idsH,AV.ids,AV.idsL,AV.idsR,AObj.ids,lk,hget,go_sem,aeq,aeq.aeqF,simprocAttr,hwi,zcC],by simp;omega⟩
 ·refine' z7 hcmp;rintro zs rfl;rw [<-hf,List.drop_of_length_le (by rw [List.length_zip];omega)];simp
def layF (d:Disk) (l:List (Int×Txt)):Disk:=l.foldl (λd q=>(zM d q.1 q.2).1) d
@[go_sem] theorem layF_nil (d:Disk):layF d []=d:=rfl
theorem zsA:∀ (l:List (Int×Txt)) {d:Disk},DiskOk d->DiskOk (layF d l)
 | [],_,h=>h
 |q::l,d,h=>zsA l (ziK h q.1 q.2)
theorem zsB (d:Disk) (l:List (Int×Txt)) (q:Int×Txt):layF d (l++ [q])=(zM (layF d l) q.1 q.2).1:=by simp [layF]
theorem zh4:∀ (l r:List (Int×Txt)) (d:Disk),(layL d l).2=0->layL d (l++r)=layL (layF d l) r
 | [],r,d,_=>rfl
 | q::l,r,d,h=>by
  rw [layL] at h;rw [List.cons_append,layL];split
  ·rename_i hq;rw [if_pos hq] at h;exact absurd h hq
  ·rename_i hq;rw [if_neg hq] at h;exact zh4 l r _ h
theorem zwZ (d:Disk) (p:Plan) (hp:DiskOk d/\PlanOk p/\p.targets.length=p.texts.length):AC 283 [diskA d,planA p] (.tup [diskA (play d p).1,.d (.int .i64 (play d p).2)]):=by
 obtain ⟨hd,hp,hl⟩:=hp;refine fbod Tryz.func283 Tryz.ntmps283 (λbase=>?_);refine' walkR fx (za zdt <| za zt <| zb _);obtain ⟨I,hI⟩:∃I:List (List AV)->AHeap×Option (List (List AV)),I=λxs=>([(3,.var [.d (.int .i64 0)]),(2,.var [.d (.str []),.nils 2,.d (.int .i64 0),.d (.bool false),.nils 1]),(1,.var [.d (.sl 1 (p.targets.map intD)),.d (.sl 1 (p.texts.map strD))]),(0,(.var [.d (.str (layF d (xs.map unI)).data),.d (.sl 2 ((layF d (xs.map unI)).cache.map putD)),.d (.int .i64 (layF d (xs.map unI)).fuse),.d (.bool (layF d (xs.map unI)).off),.d (.sl 1 ((layF d (xs.map unI)).bad.map intD))]))],some []):=⟨_,rfl⟩
 obtain ⟨G,hG⟩:∃G:List (List AV)->Prop,G=λxs=>(layL d (xs.map unI)).2=0:=⟨_,rfl⟩
 obtain ⟨J,hJ⟩:∃J:Code->AHeap->Option (List (List AV))->Prop,J=λc h g=>c= .exit 0/\g=some []/\∃D e,play d p=(D,e)/\h= [(3,.var [.d (.int .i64 e)]),(2,.var [.d (.str []),.nils 2,.d (.int .i64 0),.d (.bool false),.nils 1]),(1,.var [.d (.sl 1 (p.targets.map intD)),.d (.sl 1 (p.texts.map strD))]),(0,(.var [.d (.str D.data),.d (.sl 2 (D.cache.map putD)),.d (.int .i64 D.fuse),.d (.bool D.off),.d (.sl 1 (D.bad.map intD))]))]:=⟨_,rfl⟩
 refine zbk 100 G I J (ziM p hp hl) (by simp only [go_sem,aeq,aeq.aeqF,simprocAttr]) rfl (zJ rfl) (by simp [cxOf,cxY]) rfl (by rw [hG];first|trivial|rfl|simp) (by rw [hI];simp only [AS.le,leT,leH,zf,AsgK,AV.le,AV.leL,AObj.le,inH,idsT,idsH,AV.ids,AV.idsL,AV.idsR,AObj.ids,lk,hget,go_sem,aeq,aeq.aeqF,simprocAttr]<;>simp [AV.leL,AV.le]) (by rw [hI];simp only [AS.le,leT,leH,zf,AsgK,AV.le,AV.leL,AObj.le,inH,idsT,idsH,AV.ids,AV.idsL,AV.idsR,AObj.ids,lk,hget,go_sem,aeq,aeq.aeqF,simprocAttr]<;>simp) (by rw [hI]<;>rfl) (by intro x hx;obtain ⟨q,_,rfl⟩:=List.mem_map.1 hx;rfl) (by intro t ht;simp at ht;first|(rcases ht with rfl|rfl<;>simp [cxOf,cxY]<;>done)|(subst ht;simp [cxOf,cxY])) ?_ ?_ ?_
 ·intro xs x hpre hgd l1 r1;obtain ⟨ys,⟨n,s⟩,zs,rfl,rfl,hzl⟩:=zcS hpre;rw [hG] at hgd;simp only [zeW] at hgd;have hx:=zsA ys hd;have hall:play d p=layL (layF d ys) ((n,s)::zs):=by rw [play,hzl,zh4 _ _ _ hgd]
  rw [layL] at hall;simp only [zcC];refine aw_le ⟨[(11,true,.d (.int .i64 n)),(12,true,.d (.str s)),(2,true,.vp 0 0),(3,true,.vp 1 0),(4,true,.vp 2 0),(6,true,.vp 3 0)],[(3,.var [.d (.int .i64 0)]),(2,.var [.d (.str []),.nils 2,.d (.int .i64 0),.d (.bool false),.nils 1]),(1,.var [.d (.sl 1 (p.targets.map intD)),.d (.sl 1 (p.texts.map strD))]),(0,(.var [.d (.str (layF d ys).data),.d (.sl 2 ((layF d ys).cache.map putD)),.d (.int .i64 (layF d ys).fuse),.d (.bool (layF d ys).off),.d (.sl 1 ((layF d ys).bad.map intD))]))],some []⟩ (by rw [hI];simp only [zeW];simp only [AS.le,leT,leH,zf,AsgK,AV.le,AV.leL,AObj.le,inH,idsT,idsH,AV.ids,AV.idsL,AV.idsR,AObj.ids,lk,hget,go_sem,aeq,aeq.aeqF,simprocAttr]) ?_
  have hsn:((ys.map zcC++ [[AV.d (.int .i64 n),AV.d (.str s)]]).map unI)=ys++ [(n,s)]:=by rw [List.map_append,zeW];rfl
  have hsf:layF d (ys++ [(n,s)])=(zM (layF d ys) n s).1:=zsB _ _ _;refine' walkR (zB hI hsn hsf) (za zdt <| za zt <| zb _);all_goals first|rfl|skip
  ·have hc:(zM (layF d ys) n s).2≠0:=by simpa using hc
   rw [hJ];exact ⟨rfl,rfl,_,_,by rw [hall,if_pos hc],rfl⟩
  ·have hc:(zM (layF d ys) n s).2=0:=by simpa using hc
   rw [hG];simp only [hsn];rw [zh4 _ _ _ hgd,layL,if_neg (by simpa using hc)];rfl
  ·have hc:(zM (layF d ys) n s).2=0:=by simpa using hc
   rw [hc]
 ·intro hgd;rw [hG] at hgd;simp only [zeW] at hgd
  have hall:play d p=(layF d (p.targets.zip p.texts),0):=by have:=zh4 (p.targets.zip p.texts) [] d hgd;rw [List.append_nil] at this;rw [play,this,layL]
  rw [hI];simp only [zeW];refine' zaO fx;rw [hall]
 ·rw [hJ];rintro c h3 g3 ⟨rfl,rfl,D,e,hall,rfl⟩;refine' zaO fx;rw [hall]
@[go_sem] noncomputable def zgK:Ent Tryz.prog 283:= .m2 zu zw zwZ
open Go Go.Proofs
def seenM (l:List Int):List (D×D):=l.map λn=>(.int .i64 n,.bool true)
@[go_sem] theorem zyn:seenM []= []:=rfl
theorem zqv (l:List Int):((seenM l).all λp=>alike (.int .i64) p.1)=true:=by
 simp [seenM,alike]
theorem zw0 (n m:Int) (v:D) (l:List (D×D)):mat (.int .i64 n) ((.int .i64 m,v)::l)=if n=m then some v else mat (.int .i64 n) l:=by
 by_cases h:n=m<;>simp [mat,sameS,h]
theorem zuZ (n m:Int) (w v:D) (l:List (D×D)):mput (.int .i64 n) w ((.int .i64 m,v)::l)=if n=m then (.int .i64 n,w)::l else (.int .i64 m,v)::mput (.int .i64 n) w l:=by
 by_cases h:n=m<;>simp [mput,sameS,h]
theorem zpr (n:Int):∀l:List Int,((mat (.int .i64 n) (seenM l)).getD (.bool false))= .bool (l.contains n)
 | []=>rfl
 | m::l=>by
  have ih:=zpr n l;have e:seenM (m::l)=(.int .i64 m,.bool true)::seenM l:=rfl;rw [e,zw0,List.contains_cons];by_cases h:n=m
  ·subst h;simp
  ·rw [if_neg h,ih];simp [h]
theorem zps (n:Int):∀l:List Int,l.contains n=false->mput (.int .i64 n) (.bool true) (seenM l)=seenM (l++ [n])
 | [],_=>rfl
 |m::l,h=>by simp only [List.contains_cons,Bool.or_eq_false_iff] at h;have ih:=zps n l h.2;have e:seenM (m::l)=(.int .i64 m,.bool true)::seenM l:=rfl;rw [e,zuZ,if_neg (by simpa using h.1),ih];rfl
theorem zmC:∀ (l r:List (Int×Txt)) (seen:List Int),pfitZ seen (l++r)=(pfitZ seen l&&pfitZ (seen++l.map (·.1)) r)
 | [],r,seen=>by simp [pfitZ]
 |a::l,r,seen=>by rw [List.cons_append,pfitZ,pfitZ,zmC l,List.map_cons,List.append_assoc,List.singleton_append];simp only [Bool.and_assoc]
theorem zw1 (p:Plan) (hp:PlanOk p):AC 273 [planA p] (.d (.bool (pfit p))):=by
 refine fbod Tryz.func273 Tryz.ntmps273 (λbase=>?_);have h1:=hp.targets;have h2:=hp.texts;refine' walkR fx (za zdt <| za zbT <| zb _)
 ·have:pfit p=false:=by
   simp only [Bool.or_eq_true,bne_iff_ne,decide_eq_true_eq] at hc;rw [pfit];rcases hc with hc|hc
   ·rw [decide_eq_false (p:=p.targets.length=p.texts.length) (by omega)];simp
   ·rw [decide_eq_false (p:=p.targets.length<=24) (by omega)];simp
  rw [this]
 obtain ⟨hl,h24⟩:p.targets.length=p.texts.length/\p.targets.length<=24:=by simp only [Bool.or_eq_false_iff,bne_eq_false_iff_eq,decide_eq_false_iff_not] at hc;omega
 have hfit:pfit p=pfitZ [] (p.targets.zip p.texts):=by rw [pfit,decide_eq_true hl,decide_eq_true h24,ziL];simp
 obtain ⟨I,hI⟩:∃I:List (List AV)->AHeap×Option (List (List AV)),I=λxs=>([(3,.var [.map 2]),(2,.omap (seenM ((xs.map unI).map (·.1)))),(1,.var [.d (.bool false)]),(0,.var [.d (.sl 1 (p.targets.map intD)),.d (.sl 1 (p.texts.map strD))])],some []):=⟨_,rfl⟩
 obtain ⟨G,hG⟩:∃G:List (List AV)->Prop,G=λxs=>pfitZ [] (xs.map unI)=true:=⟨_,rfl⟩
 obtain ⟨J,hJ⟩:∃J:Code->AHeap->Option (List (List AV))->Prop,J=λc h g=>c= .ret/\g=some []/\pfit p=false/\∃m,h= [(3,.var [.map 2]),(2,.omap m),(1,.var [.d (.bool false)]),(0,.var [.d (.sl 1 (p.targets.map intD)),.d (.sl 1 (p.texts.map strD))])]:=⟨_,rfl⟩
 refine zbk 100 G I J (ziM p hp hl) (by simp only [go_sem,aeq,aeq.aeqF,simprocAttr]) rfl (zJ rfl) (by simp [cxOf,cxY]) rfl (by rw [hG];first|trivial|rfl|simp) (by rw [hI];simp only [AS.le,leT,leH,zf,AsgK,AV.le,AV.leL,AObj.le,inH,idsT,idsH,AV.ids,AV.idsL,AV.idsR,AObj.ids,lk,hget,go_sem,aeq,aeq.aeqF,simprocAttr]<;>simp [AV.leL,AV.le]) (by rw [hI];simp only [AS.le,leT,leH,zf,AsgK,AV.le,AV.leL,AObj.le,inH,idsT,idsH,AV.ids,AV.idsL,AV.idsR,AObj.ids,lk,hget,go_sem,aeq,aeq.aeqF,simprocAttr]<;>simp) (by rw [hI]<;>rfl) (by intro x hx;obtain ⟨q,_,rfl⟩:=List.mem_map.1 hx;rfl) (by intro t ht;simp at ht;first|(rcases ht with rfl|rfl<;>simp [cxOf,cxY]<;>done)|(subst ht;simp [cxOf,cxY])) ?_ ?_ ?_
 ·intro xs x hpre hgd l1 r1;obtain ⟨ys,⟨n,s⟩,zs,rfl,rfl,hzl⟩:=zcS hpre;rw [hG] at hgd;simp only [zeW] at hgd
  have hall:pfit p=pfitZ (ys.map (·.1)) ((n,s)::zs):=by rw [hfit,hzl,zmC,hgd];rfl
  rw [pfitZ] at hall;simp only [zcC];refine aw_le ⟨[(22,true,.d (.int .i64 n)),(23,true,.d (.str s)),(1,true,.vp 0 0),(2,true,.vp 1 0),(3,true,.vp 3 0)],[(3,.var [.map 2]),(2,.omap (seenM (ys.map (·.1)))),(1,.var [.d (.bool false)]),(0,.var [.d (.sl 1 (p.targets.map intD)),.d (.sl 1 (p.texts.map strD))])],some []⟩ (by rw [hI];simp only [zeW];simp only [AS.le,leT,leH,zf,AsgK,AV.le,AV.leL,AObj.le,inH,idsT,idsH,AV.ids,AV.idsL,AV.idsR,AObj.ids,lk,hget,go_sem,aeq,aeq.aeqF,simprocAttr]) ?_;have hsm:=zpr n (ys.map (·.1));have hsa:=zqv (ys.map (·.1))
  have hsn:((ys.map zcC++ [[AV.d (.int .i64 n),AV.d (.str s)]]).map unI)=ys++ [(n,s)]:=by rw [List.map_append,zeW];rfl
  refine' walkR (zah hI hsn hsm hsa) (za zdt <| za zbT <| zb _)
  ·rw [hJ];refine ⟨rfl,rfl,?_,_,rfl⟩
   have hh:(!secOk n||(ys.map (·.1)).contains n||((s.length:Int) !=64))= !(secOk n&& !(ys.map (·.1)).contains n&&((s.length:Int)==64)):=by rw [Bool.not_and,Bool.not_and,Bool.not_not];rfl
   rw [hh] at hc;simp only [Bool.not_eq_true'] at hc;rw [hall,hc,Bool.false_and]
  ·rw [hG];simp only [hsn];simp only [Bool.or_eq_false_iff,Bool.not_eq_false',bne_eq_false_iff_eq] at hc;rw [zhi,hgd,List.nil_append,hc.1.1,hc.1.2,hc.2];rfl
  ·simp only [Bool.or_eq_false_iff] at hc;rw [zps _ _ hc.1.2,List.map_append];rfl
 ·intro hgd;rw [hG] at hgd;simp only [zeW] at hgd;rw [hI];refine' zaO fx;rw [hfit,hgd]
 ·rw [hJ];rintro c h3 g3 ⟨rfl,rfl,hno,m,rfl⟩;refine' zaO fx;rw [hno]
@[go_sem] noncomputable def ziN:Ent Tryz.prog 273:= .m1 zw zw1
open Go Go.Proofs
structure DiskF (d:Disk):Prop where
 ok:DiskOk d
 puts:d.cache.all (putOk d)=true
theorem zmF {d d':Disk} (h:d'.data.length=d.data.length):putOk d'=putOk d:=by funext q;unfold putOk there dsize;rw [h]
theorem zdG (d:Disk):(burnt d).data=d.data:=by unfold burnt;split<;>rfl
theorem zdV (d:Disk):(burnt d).cache=d.cache:=by unfold burnt;split<;>rfl
theorem ziR (d:Disk) (a:Int) (s:Txt):(zM d a s).1.data=d.data:=by
 unfold zM;repeat' split
 all_goals first|rfl|(rw [zdG])
theorem DiskF.write {d:Disk} (h:DiskF d) (a:Int) (s:Txt):DiskF (zM d a s).1:=by
 refine ⟨ziK h.ok a s,?_⟩;have e:=zmF (d:=d) (d':=(zM d a s).1) (by rw [ziR]);rw [e];unfold zM;split
 ·exact h.puts
 split
 ·exact h.puts
 split
 ·exact h.puts
 split
 ·exact h.puts
 split
 ·exact h.puts
 split
 ·exact h.puts
 ·rename_i h1 h2 h3 h4 h5 h6;rw [zdV,List.all_append,h.puts];have h3:(s.length:Int)=64:=by simpa using h3
  simp [putOk,h3];simpa using h2
theorem zkl {d:Disk} (h:d.cache.all (putOk d)=true):(dflush d).1.data.length=d.data.length:=by
 unfold dflush;split
 ·rfl
 split
 ·rfl
 ·rw [zdG];exact zhf h
theorem DiskF.flush {d:Disk} (h:DiskF d):DiskF (dflush d).1:=by
 have hl:=zkl h.puts;refine ⟨?_,?_⟩
 ·revert hl;unfold dflush;split
  ·intro _;exact h.ok
  split
  ·intro _;exact ⟨h.ok.data,h.ok.cache,h.ok.bad,h.ok.fuse0,h.ok.fuse1⟩
  ·intro hl;rw [zdG] at hl;exact zpj ⟨by rw [hl];exact h.ok.data,by simp,h.ok.bad,h.ok.fuse0,h.ok.fuse1⟩
 ·rw [zmF hl];unfold dflush;split
  ·exact h.puts
  split
  ·exact h.puts
  ·rw [zdV];rfl
theorem DiskF.layL:∀ (l:List (Int×Txt)) {d:Disk},DiskF d->DiskF (layL d l).1
 | [],d,h=>h
 |q::l,d,h=>by
  rw [Aw.layL];split
  ·exact h.write q.1 q.2
  ·exact DiskF.layL l (h.write q.1 q.2)
def encT (l:List Int):Txt:=l.flatMap (λt=>putN t.toNat 4)
def padR (s:Txt):Txt:=(padS s 64).1
def trows (l:List Int):List Txt:=if l.length<=16 then [padR (encT l)] else [padR (encT (l.take 16)),padR (encT (l.drop 16))]
def tbody (p:Plan):List Txt:=trows p.targets++p.texts
def thead (seq:Int) (p:Plan):Txt:=putN seq.toNat 8++putN p.targets.length 2
def tsum (c:Int) (l:List Txt):Int:=l.foldl sumOf c
def zwp:Txt:= [67,79,70,74]
def ttop (seq:Int) (p:Plan):Txt:=padR (zwp++thead seq p++putN (65535 - p.targets.length) 2++zfg (tsum (sumOf 0 (thead seq p)) (tbody p)))
def zb4 (seq:Int) (p:Plan):List Txt:=ttop seq p::tbody p
theorem zpu {p:Plan} (hp:pfit p=true):∀t∈p.targets,0<=t/\t<1024:=by
 obtain ⟨h1,h2,h3⟩:=pfit_iff.1 hp
 have key:∀ (l:List (Int×Txt)) (seen:List Int),pfitZ seen l=true->∀q∈l,0<=q.1/\q.1<1024:=by
  intro l;induction l with
  |nil=>intro _ _ q hq;simp at hq
  | cons a l ih=>
   intro seen h q hq;simp only [pfitZ,Bool.and_eq_true] at h;rcases List.mem_cons.1 hq with rfl|hq
   ·have:=h.1.1.1;simpa [secOk] using this
   ·exact ih _ h.2 q hq
 intro t ht;obtain ⟨i,hi,rfl⟩:=List.mem_iff_getElem.1 ht;have hz:(p.targets.zip p.texts)[i]?=some (p.targets[i],p.texts[i]'(by omega)):=List.getElem?_zip_eq_some.2 ⟨by simp [hi],by simp⟩;exact key _ _ h3 _ (List.mem_of_getElem? hz)
theorem zu3 (s:Txt) (hs:s.length<=9223372036854775807):AC 246 [.d (.str s)] (.d (.str (padR s))):=by refine bod Tryz.func246 Tryz.ntmps246 (λbase=>?_);refine' walkW fx (za zez <| zb _);rfl
@[go_sem] noncomputable def zdH:Ent Tryz.prog 246:= .m1 strT zu3
open Go Go.Proofs
structure Tx where
 seq:Int
 plan:Plan
 deriving DecidableEq
def txA (t:Tx):AV:= .agg [.d (.int .u64 t.seq),.d (.sl 1 (t.plan.targets.map intD)),.d (.sl 1 (t.plan.texts.map strD))]
attribute [go_sem] txA
theorem zyq (t:Tx):Tx.mk t.seq t.plan=t:=rfl
noncomputable def txA_T:PT Tx:=aggT (consL (intT .u64) (consL (slT 1 intD zc7) (consL (slT 1 strD zgD) nilL))) (λp=>⟨p.1,⟨p.2.1,p.2.2.1⟩⟩) (λx=>(x.seq,x.plan.targets,x.plan.texts,())) (λ_=>rfl)
attribute [go_sem] txA_T
attribute [go_sem] zyq
def trest (l:List Int) (i:Nat):List Txt×Txt:=
 if i=l.length then (trows l,[]) else if i<16 then ([],encT (l.take i)) else ([padR (encT (l.take 16))],encT ((l.take i).drop 16))
theorem ziS (l:List Int) (t:Int):encT (l++ [t])=encT l++putN t.toNat 4:=by simp [encT]
theorem zeX (l:List Int):(encT l).length=4*l.length:=by
 induction l with
 |nil=>rfl
 |cons a l ih=>simp only [encT,List.flatMap_cons,List.length_append,zK,List.length_cons] at ih ⊢;omega
theorem zsM {n:Nat} (h:n<18446744073709551616):IntKind.u64.wrap (n:Int)=n:=zad (by omega) (by omega)
theorem zxb (l:List Int) (h:0<l.length):trest l 0=([],[]):=by
 rw [trest,if_neg (by omega),if_pos (by omega)];rfl
theorem zqC {l:List Int} {i:Nat} {t:Int} (hq:l[i]?=some t) (h24:l.length<=24):
  trest l (i+1)=if i+1=l.length\/i % 16=15 then ((trest l i).1++ [padR ((trest l i).2++putN t.toNat 4)],[]) else ((trest l i).1,(trest l i).2++putN t.toNat 4):=by
 have hlt:i<l.length:=(List.getElem?_eq_some_iff.1 hq).1;have htk:l.take (i+1)=l.take i++ [t]:=zb7 hq
 have e0:trest l i=if i<16 then ([],encT (l.take i)) else ([padR (encT (l.take 16))],encT ((l.take i).drop 16)):=by rw [trest,if_neg (by omega)]
 rw [e0];by_cases h16:i<16
 ·simp only [if_pos h16];rw [List.nil_append,<-ziS,<-htk];by_cases he:i+1=l.length
  ·rw [if_pos (.inl he),trest,if_pos he,trows,if_pos (by omega),he,List.take_length]
  ·by_cases h15:i % 16=15
   ·rw [if_pos (.inr h15),trest,if_neg he,if_neg (by omega)];have:i+1=16:=by omega
    rw [this,List.drop_of_length_le (by rw [List.length_take];omega)];rfl
   ·rw [if_neg (by omega),trest,if_neg he,if_pos (by omega)]
 ·simp only [if_neg h16]
  have hd:(l.take (i+1)).drop 16=(l.take i).drop 16++ [t]:=by rw [htk,List.drop_append_of_le_length (by rw [List.length_take];omega)]
  rw [<-ziS,<-hd];by_cases he:i+1=l.length
  ·rw [if_pos (.inl he),trest,if_pos he,trows,if_neg (by omega),he,List.take_length];rfl
  ·rw [if_neg (by omega),trest,if_neg he,if_neg (by omega)]
theorem zlh:∀ (l:List Txt) (c:Int),0<=c->c<=4294967295->0<=tsum c l/\tsum c l<=4294967295
 | [],c,h0,h1=>⟨h0,h1⟩
 |s::l,c,h0,h1=>zlh l _ (zgn c s h0 h1).1 (zgn c s h0 h1).2
theorem zmJ (l:List Txt) (c:Int) (s:Txt):tsum c (l++ [s])=sumOf (tsum c l) s:=by simp [tsum]
theorem zh7 {s:Txt} (h:s.length<=64):(padR s).length=64:=by rw [padR,padS,if_neg (by omega)];simp;omega
theorem zsN (l:List Int) (h:l.length<=24):∀s∈trows l,s.length=64:=by
 intro s hs;unfold trows at hs;split at hs
 ·simp only [List.mem_singleton] at hs;subst hs;exact zh7 (by rw [zeX];omega)
 ·simp only [List.mem_cons,List.not_mem_nil,or_false] at hs;rcases hs with rfl|rfl
  ·exact zh7 (by rw [zeX,List.length_take];omega)
  ·exact zh7 (by rw [zeX,List.length_drop];omega)
theorem ziT {p:Plan} (hf:pfit p=true):∀s∈tbody p,s.length=64:=by
 obtain ⟨hl,h24,h64⟩:=zay hf;intro s hs;rcases List.mem_append.1 hs with h|h
 ·exact zsN _ h24 s h
 ·exact h64 s h
theorem zcU (c:Int):(zfg c).length=4:=rfl
theorem zqD (t:Tx) (hp:PlanOk t.plan/\pfit t.plan=true/\t.plan.targets.length≠0/\0<=t.seq/\t.seq<18446744073709551616):AC 198 [txA t] (.tup [.d (.sl 1 ((zb4 t.seq t.plan).map strD)),.d (.int .i64 0)]):=by
 obtain ⟨hp,hf,hn,h0,h1⟩:=hp;refine fbod Tryz.func198 Tryz.ntmps198 (λbase=>?_);obtain ⟨hl,h24,h64⟩:=zay hf;have hrng:=zpu hf;have hn0:((t.plan.targets.length:Int)==0)=false:=by rw [beq_eq_false_iff_ne];omega
 refine' walkW (zn hf hn0) (za zdE <| za zat <| za zdH <| za zby <| za zbv <| za zaz <| zb _);refine zds 5 1 rfl ?_;simp only [fresh,top,hget, ↓reduceIte];refine zq (λq: { i:Nat // i<=t.plan.targets.length } =>⟨[(1,true,.vp 0 0),(4,true,.d (.int .i64 t.plan.targets.length)),(5,true,.osl 1 1 (trest t.plan.targets q.1).1.length 0 (trest t.plan.targets q.1).1.length),(6,true,.d (.str (trest t.plan.targets q.1).2)),(7,true,.d (.int .i64 q.1))],[(1,.arr 1 ((trest t.plan.targets q.1).1.map strD)),(0,.var [.d (.int .u64 t.seq),.d (.sl 1 (t.plan.targets.map intD)),.d (.sl 1 (t.plan.texts.map strD))])],some []⟩) (λq=>t.plan.targets.length - q.1) ⟨0,Nat.zero_le _⟩ (by simp only [zxb _ (Nat.pos_of_ne_zero hn)];simp only [AS.le,leT,leH,zf,AsgK,AV.le,AV.leL,AObj.le,inH,idsT,idsH,AV.ids,AV.idsL,AV.idsR,AObj.ids,lk,hget,go_sem,aeq,aeq.aeqF,simprocAttr]<;>and_intros<;>rfl) (λq=>?_);obtain ⟨i,hi⟩:=q;simp only at hi ⊢;rcases zP intD t.plan.targets i hi with ⟨m,hq,hlt,hcmp,hrow,hdr,htk⟩|⟨hend,hcmp⟩
 ·simp only [intD] at hrow;have hwi:=zr (i:=i) (by omega);obtain ⟨hm0,hm1⟩:=hrng m (List.mem_of_getElem? hq);have hwm:IntKind.u64.wrap m=m:=zad (by omega) (by omega);have hp4:putS8 m 4=putN m.toNat 4:=by rw [putS8,if_neg (by omega)];rfl
  have hts:=zqC hq h24
  have hl6:(trest t.plan.targets i).2.length<=96:=by
   have e0:trest t.plan.targets i=if i<16 then ([],encT (t.plan.targets.take i)) else ([padR (encT (t.plan.targets.take 16))],encT ((t.plan.targets.take i).drop 16)):=by rw [trest,if_neg (by omega)]
   rw [e0];split
   ·simp only [zeX,List.length_take];omega
   ·simp only [zeX,List.length_take,List.length_drop];omega
  have hn1:IntKind.i64.wrap ((t.plan.targets.length:Int) - 1)=(t.plan.targets.length:Int) - 1:=zg (by omega) (by omega);have hl4:(putN m.toNat 4).length=4:=zK _ _
  have hcl:(trest t.plan.targets i).1.length<=1:=by
   have e0:trest t.plan.targets i=if i<16 then ([],encT (t.plan.targets.take i)) else ([padR (encT (t.plan.targets.take 16))],encT ((t.plan.targets.take i).drop 16)):=by rw [trest,if_neg (by omega)]
   rw [e0];split<;>simp
  by_cases hc:i+1=t.plan.targets.length\/i % 16=15
  ·have hdec:(((i:Int)==(t.plan.targets.length:Int) - 1)||((i:Int).tmod 16==15))=true:=by rw [Bool.or_eq_true,beq_iff_eq,beq_iff_eq,Int.tmod_eq_emod_of_nonneg (by omega)];omega
   rw [if_pos hc] at hts;refine' walkW (zL hcmp hrow hwm hp4 hn1 (zB hdec @List.length_append.{0} hl4)) (za zdE <| za zat <| za zdH <| za zby <| za zbv <| za zaz <| zb _);all_goals first|omega|(simp only [List.length_append,hl4];omega)|skip
   exact ⟨⟨i+1,by omega⟩,by simp only [hts,List.map_append,List.length_append,List.length_singleton];simp only [AS.le,leT,leH,zf,AsgK,AV.le,AV.leL,AObj.le,inH,idsT,idsH,AV.ids,AV.idsL,AV.idsR,AObj.ids,lk,hget,go_sem,aeq,aeq.aeqF,simprocAttr,hwi]<;>and_intros<;>rfl,by simp;omega⟩
  ·have hdec:(((i:Int)==(t.plan.targets.length:Int) - 1)||((i:Int).tmod 16==15))=false:=by rw [Bool.or_eq_false_iff,beq_eq_false_iff_ne,beq_eq_false_iff_ne,Int.tmod_eq_emod_of_nonneg (by omega)];omega
   rw [if_neg hc] at hts;refine' walkW (zL hcmp hrow hwm hp4 hn1 (zB hdec @List.length_append.{0} hl4)) (za zdE <| za zat <| za zdH <| za zby <| za zbv <| za zaz <| zb _);all_goals first|omega|(simp only [List.length_append,hl4];omega)|skip
   exact ⟨⟨i+1,by omega⟩,by simp only [hts];simp only [AS.le,leT,leH,zf,AsgK,AV.le,AV.leL,AObj.le,inH,idsT,idsH,AV.ids,AV.idsL,AV.idsR,AObj.ids,lk,hget,go_sem,aeq,aeq.aeqF,simprocAttr,hwi],by simp;omega⟩
 ·subst hend;have he:trest t.plan.targets t.plan.targets.length=(trows t.plan.targets,[]):=by rw [trest,if_pos rfl]
  have htr:(trows t.plan.targets).length<=2:=by unfold trows;split<;>simp
  have hu:IntKind.u64.wrap (t.plan.targets.length:Int)=(t.plan.targets.length:Int):=zsM (by omega);have hp8:putS8 t.seq 8=putN t.seq.toNat 8:=by rw [putS8,if_neg (by omega)];rfl
  have hp2:putS8 (t.plan.targets.length:Int) 2=putN t.plan.targets.length 2:=by rw [putS8,if_neg (by omega)];rfl
  have hw5:IntKind.i64.wrap (65535 - (t.plan.targets.length:Int))=((65535 - t.plan.targets.length:Nat):Int):=by rw [zg (by omega) (by omega)];omega
  have hu5:IntKind.u64.wrap ((65535 - t.plan.targets.length:Nat):Int)=((65535 - t.plan.targets.length:Nat):Int):=zsM (by omega);have hp5:putS8 ((65535 - t.plan.targets.length:Nat):Int) 2=putN (65535 - t.plan.targets.length) 2:=by rw [putS8,if_neg (by omega)];rfl
  have hl8:=zK t.seq.toNat 8;have hl2:=zK t.plan.targets.length 2;have hl5:=zK (65535 - t.plan.targets.length) 2;simp only [he];refine' walkW (zL hcmp he hu hp8 hp2 (zB @List.length_append.{0} hl8 hl2)) (za zdE <| za zat <| za zdH <| za zby <| za zbv <| za zaz <| zb _);have hB:(tbody t.plan).map strD=(trows t.plan.targets).map strD++t.plan.texts.map strD:=by rw [tbody,List.map_append]
  have hBl:(tbody t.plan).length=(trows t.plan.targets).length+t.plan.texts.length:=by rw [tbody,List.length_append]
  rw [<-hB,<-hBl];obtain ⟨B,hBe⟩:∃B,B=tbody t.plan:=⟨_,rfl⟩
  have hB64:∀s∈B,s.length=64:=by rw [hBe];exact ziT hf
  rw [<-hBe] at hB hBl ⊢;obtain ⟨H,hH⟩:∃H,H=putN t.seq.toNat 8++putN t.plan.targets.length 2:=⟨_,rfl⟩
  have hHl:H.length=10:=by rw [hH,List.length_append,hl8,hl2]
  rw [<-hH];have hc0:0<=sumOf 0 H/\sumOf 0 H<=4294967295:=zgn 0 H (by omega) (by omega);refine zq (λq: { k:Nat // k<=B.length } =>⟨[(1,true,.vp 0 0),(4,true,.d (.int .i64 t.plan.targets.length)),(5,true,.osl 1 1 B.length 0 B.length),(8,true,.d (.str H)),(9,true,.d (.int .u32 (tsum (sumOf 0 H) (B.take q.1)))),(10,true,.d (.int .i64 q.1))],[(1,.arr 1 (B.map strD)),(0,.var [.d (.int .u64 t.seq),.d (.sl 1 (t.plan.targets.map intD)),.d (.sl 1 (t.plan.texts.map strD))])],some []⟩) (λq=>B.length - q.1) ⟨0,Nat.zero_le _⟩ le1 (λq=>?_);obtain ⟨k,hk⟩:=q;simp only at hk ⊢;rcases zP strD B k hk with ⟨s,hq,hlt,hcmp,hrow,hdr,htk⟩|⟨hend,hcmp⟩
  ·simp only [strD] at hrow;have hwi:=zr (i:=k) (by omega);have hsl:=hB64 s (List.mem_of_getElem? hq);have hcr:=zlh (B.take k) _ hc0.1 hc0.2;have hsn:tsum (sumOf 0 H) (B.take (k+1))=sumOf (tsum (sumOf 0 H) (B.take k)) s:=by rw [htk,zmJ]
   refine' walkW (zB hcmp hrow natC) (za zdE <| za zat <| za zdH <| za zby <| za zbv <| za zaz <| zb _);exact ⟨⟨k+1,by omega⟩,by simp only [AS.le,leT,leH,zf,AsgK,AV.le,AV.leL,AObj.le,inH,idsT,idsH,AV.ids,AV.idsL,AV.idsR,AObj.ids,lk,hget,go_sem,aeq,aeq.aeqF,simprocAttr,hwi,hsn],by simp;omega⟩
  ·subst hend;have hcr:=zlh B _ hc0.1 hc0.2;have htt:B.take B.length=B:=List.take_length;have hbl:=zcU (tsum (sumOf 0 H) B);refine' walkW (zL hcmp hw5 hu5 hp5 @List.length_append.{0} (zL hHl hl5 hbl @List.length_cons.{0} @List.length_nil.{0} htt)) (za zdE <| za zat <| za zdH <| za zby <| za zbv <| za zaz <| zb _);rw [if_pos (by omega),List.take_of_length_le (by simp;omega),zb4,ttop,List.map_cons,thead,<-hH,<-hBe];rfl
@[go_sem] noncomputable def zcr:Ent Tryz.prog 198:= .m1 txA_T zqD
open Go Go.Proofs
theorem zxf (n size:Int) (hp:0<=n/\n<18446744073709551616):AC 274 [.d (.int .u64 n),.d (.int .i64 size)] (.d (.str (putS8 n size))):=by obtain ⟨h0,h1⟩:=hp;refine bod Tryz.func274 Tryz.ntmps274 (λbase=>?_);refine' walkW fx (za zda <| za zgH <| zb _)
@[go_sem] noncomputable def zi2:Ent Tryz.prog 274:= .m2 (intT .u64) (intT .i64) zxf
theorem zxg (n size:Int) (hp:0<=n/\n<9223372036854775808):AC 275 [.d (.int .i64 n),.d (.int .i64 size)] (.d (.str (putS8 n size))):=by obtain ⟨h0,h1⟩:=hp;refine bod Tryz.func275 Tryz.ntmps275 (λbase=>?_);have hw:IntKind.u64.wrap n=n:=zad (by omega) (by omega);refine' walkW hw (za zda <| za zgH <| zb _)
@[go_sem] noncomputable def zfx:Ent Tryz.prog 275:= .m2 (intT .i64) (intT .i64) zxg
theorem zxh (s:Txt) (hs:s.length<=9223372036854775807):AC 277 [.d (.str s)] (.d (.str (padR s))):=by refine bod Tryz.func277 Tryz.ntmps277 (λbase=>?_);refine' walkW fx (za zda <| za zgH <| zb _);rfl
@[go_sem] noncomputable def zfy:Ent Tryz.prog 277:= .m1 strT zxh
def zcW (l:List Int):List (List Int):=if l= [] then [] else if l.length<=16 then [l] else [l.take 16,l.drop 16]
def zaZ (l:List Int):List AV:= [.d (.sl 1 (l.map intD))]
theorem zvm (l:List Int):ACall Tryz.prog 302 0 [.d (.sl 1 (l.map intD)),.d (.int .i64 16)] [] (λr _=>r= .fn (.func 310) [] [.dp [.d (.sl 1 (l.map intD))],.dp [.d (.int .i64 16)]]):=by refine fbod Tryz.func302 Tryz.ntmps302 (λbase=>?_);refine' zc fx
@[go_sem] noncomputable def zqV:Ent Tryz.prog 302:= .ofL (consL (slT 1 intD zc7) (consL (zew (.d (.int .i64 16))) nilL)) (λ(l,_,_)=>True) (λ(l,_,_)=> .fn (.func 310) [] [.dp [.d (.sl 1 (l.map intD))],.dp [.d (.int .i64 16)]]) (λ(l,_,_) hp=>⟨rfl,zvm l⟩)
abbrev Cst (l:List Int):= { q:Nat×List (List AV) // (q.1=0/\q.2= [])\/(q.1=16/\0<l.length/\q.2= [zaZ (l.take 16)])\/(q.1=32/\16<l.length/\q.2= [zaZ (l.take 16),zaZ (l.drop 16)]) }
theorem zmO (l:List Int) (hl:l.length<=24) (fl:Nat):AIter Tryz.prog 310 fl [] [.dp [.d (.sl 1 (l.map intD))],.dp [.d (.int .i64 16)]] [] ((zcW l).map zaZ) (λg h'=>(∀xs,g=some xs->xs=(zcW l).map zaZ)/\h'= []):=by
 refine itr Tryz.func310 Tryz.ntmps310 (λbase y=>?_);refine' z7 fx;refine zq (λq:Cst l=>⟨[(0,true,.fn (.yield y.yl) [] []),(1,true,.dp [.d (.sl 1 (l.map intD))]),(2,true,.dp [.d (.int .i64 16)]),(4,true,.d (.int .i64 q.1.1))],[],some q.1.2⟩) (λq=>40 - q.1.1) ⟨(0,[]),.inl ⟨rfl,rfl⟩⟩ le1 (λq=>?_);obtain ⟨⟨i,xs⟩,hi⟩:=q;simp only at hi ⊢;rcases hi with ⟨rfl,rfl⟩|⟨rfl,h0,rfl⟩|⟨rfl,h16,rfl⟩
 ·by_cases h:l= []
  ·subst h;refine' z7 fx;rintro zs rfl;rfl
  ·have hpos:0<l.length:=List.length_pos_iff.2 h;have hcmp:decide ((0:Int)<(l.length:Int))=true:=decide_eq_true (by omega);obtain ⟨n,hn⟩:∃n,n=min 16 l.length:=⟨_,rfl⟩
   have hm:imin 16 (l.length:Int)=(n:Int):=by unfold imin;split<;>omega
   have hw:IntKind.i64.wrap (0+(n:Int))=n:=by rw [Int.zero_add];exact zg (by omega) (by omega)
   have ht:(l.map intD).take n=(l.take 16).map intD:=by
    rw [<-List.map_take];rcases Nat.le_total l.length 16 with h2|h2
    ·rw [hn,Nat.min_eq_right h2,List.take_length,List.take_of_length_le h2]
    ·rw [hn,Nat.min_eq_left h2]
   have hc0:((0:Nat):Int)=0:=rfl;have hz:(Int.toNat 0)=0:=rfl;refine' z7 (zL hc0 hcmp hm hw hz (zB natC @List.drop_zero.{0} ht))
   ·unfold zcW;rw [if_neg h];split
    ·rename_i h2;rw [List.take_of_length_le h2];exact ⟨[],rfl⟩
    ·exact ⟨[zaZ (l.drop 16)],rfl⟩
   ·have hw16:IntKind.i64.wrap 16=16:=by decide
    exact ⟨⟨(16,[zaZ (l.take 16)]),.inr (.inl ⟨rfl,hpos,rfl⟩)⟩,by simp only [AS.le,leT,leH,zf,AsgK,AV.le,AV.leL,AObj.le,inH,idsT,idsH,AV.ids,AV.idsL,AV.idsR,AObj.ids,lk,hget,go_sem,aeq,aeq.aeqF,simprocAttr,hw16,zaZ]<;>and_intros<;>rfl,by simp⟩
 ·rcases Nat.lt_or_ge 16 l.length with h16|h16
  ·have hcmp:decide ((16:Int)<(l.length:Int))=true:=decide_eq_true (by omega);obtain ⟨n,hn⟩:∃n,n=l.length - 16:=⟨_,rfl⟩
   have hdl:((l.drop 16).length:Int)=(n:Int):=by simp [hn]
   have hm:imin 16 (n:Int)=(n:Int):=by unfold imin;split<;>omega
   have hw:IntKind.i64.wrap (16+(n:Int))=((16+n:Nat):Int):=by rw [zg (by omega) (by omega)];omega
   have ht:(l.map intD).take (16+n)=l.map intD:=List.take_of_length_le (by simp;omega);have hmd:(l.map intD).drop 16=(l.drop 16).map intD:=by rw [<-List.map_drop]
   have hc0:((16:Nat):Int)=16:=rfl;have hz:(Int.toNat 16)=16:=rfl;refine' z7 (zL hc0 hcmp hm hw hz (zah hdl natC ht hmd))
   ·unfold zcW;rw [if_neg (by intro e;rw [e] at h16;simp at h16),if_neg (by omega)];exact ⟨[],rfl⟩
   ·have hw32:IntKind.i64.wrap 32=32:=by decide
    exact ⟨⟨(32,[zaZ (l.take 16),zaZ (l.drop 16)]),.inr (.inr ⟨rfl,h16,rfl⟩)⟩,by simp only [AS.le,leT,leH,zf,AsgK,AV.le,AV.leL,AObj.le,inH,idsT,idsH,AV.ids,AV.idsL,AV.idsR,AObj.ids,lk,hget,go_sem,aeq,aeq.aeqF,simprocAttr,hw32,zaZ]<;>and_intros<;>rfl,by simp⟩
  ·have hcmp:decide ((16:Int)<(l.length:Int))=false:=decide_eq_false (by omega);have hc0:((16:Nat):Int)=16:=rfl;refine' z7 (zn hc0 hcmp);rintro zs rfl;unfold zcW;rw [if_neg (by intro e;rw [e] at h0;simp at h0),if_pos h16,List.take_of_length_le h16];rfl
 ·have hcmp:decide ((32:Int)<(l.length:Int))=false:=decide_eq_false (by omega);have hc0:((32:Nat):Int)=32:=rfl;refine' z7 (zn hc0 hcmp);rintro zs rfl;unfold zcW;rw [if_neg (by intro e;rw [e] at h16;simp at h16),if_neg (by omega)];rfl
end Go.Aw
