/-
  Parts of the proof: PlanB, PlanF (short names; the readable texts lie in the repo, under wip).
-/
import Derived.Test.YtgkjmbopnaeanaaGreatPart16
import Derived.Test.YtgkjmbopnaeanaaGreatPart12
set_option maxRecDepth 100000
set_option maxHeartbeats 2000000
set_option linter.unusedSimpArgs false
set_option linter.unusedVariables false
namespace Go.Aw
open Go Go.Proofs
theorem zrZ {l:List Int} {i:Nat} {t:Int} :∀ {k:Nat},l[i]?=some t→(idxP (fun x=>x==t) l k==((k+i:Nat):Int))= !(l.take i).contains t:=by
 induction l generalizing i with
 |nil=>intro k h;simp at h
 | cons a l ih=>
  intro k h
  cases i with
  |zero=>
   simp only [List.getElem?_cons_zero,Option.some.injEq] at h
   subst h
   rw [idxP,if_pos (by simp)]
   simp
  | succ i=>
   rw [List.getElem?_cons_succ] at h
   rw [idxP,List.take_succ_cons,List.contains_cons]
   by_cases ha:a=t
   ·rw [if_pos (by simpa using ha),ha,beq_self_eq_true,Bool.true_or]
    rw [beq_eq_false_iff_ne.2 (by omega)];rfl
   ·rw [if_neg (by simpa using ha),show k+(i+1)=k+1+i from by omega,ih h,beq_eq_false_iff_ne.2 (Ne.symm ha),Bool.false_or]
theorem zua (p:Plan) (hp:PlanOk p):AC 246 [planA p] (.d (.bool (pfit p))):=by
 refine bod Tryz.func246 Tryz.ntmps246 (fun base=>?_)
 have h1:=hp.targets
 have h2:=hp.texts
 refine' zc fx
 ·have:pfit p=false:=by
   simp only [Bool.or_eq_true,bne_iff_ne,decide_eq_true_eq] at hc
   rw [pfit]
   rcases hc with hc|hc
   ·rw [decide_eq_false (p:=p.targets.length=p.texts.length) (by omega)];simp
   ·rw [decide_eq_false (p:=p.targets.length≤24) (by omega)];simp
  rw [this]
 obtain ⟨hl,h24⟩:p.targets.length=p.texts.length∧p.targets.length≤24:=by
  simp only [Bool.or_eq_false_iff,bne_eq_false_iff_eq,decide_eq_false_iff_not] at hc
  omega
 have hfit:pfit p=pfitL [] p.targets p.texts:=by
  rw [pfit,decide_eq_true hl,decide_eq_true h24];simp
 refine zo (fun q: { i:Nat // i≤p.targets.length∧pfitL [] p.targets p.texts=pfitL (p.targets.take i) (p.targets.drop i) (p.texts.drop i) } =>⟨[(1,true,.vp 0 0),(3,true,.d (.int .i64 q.1))],[(0,.var [.d (.sl 1 (p.targets.map intD)),.d (.sl 1 (p.texts.map strD))])],some []⟩) (fun q=>p.targets.length - q.1) ⟨0,Nat.zero_le _,rfl⟩ le1 (fun q=>?_)
 obtain ⟨i,hi,hf⟩:=q
 simp only at hi hf ⊢
 rcases zD intD p.targets i hi with ⟨m,hq,hlt,hcmp,hrow,hdr,htk⟩|⟨hend,hcmp⟩
 ·obtain ⟨s,hq'⟩:=zai (l:=p.texts) (i:=i) (by omega)
  have hrow':=za1 (g:=strD) hq'
  simp only [intD] at hrow
  simp only [strD] at hrow'
  have hwi:=zn (i:=i) (by omega)
  have hid:=zrZ (k:=0) hq
  rw [Nat.zero_add] at hid
  rw [hdr,zdQ hq',pfitL] at hf
  have hall:(!secOk m||pfind p.targets m !=(i:Int)||((s.length:Int) !=64))= !(secOk m&& !(p.targets.take i).contains m&&((s.length:Int)==64)):=by
   rw [← hid,Bool.not_and,Bool.not_and];rfl
  refine' walkW (zr hcmp hrow hrow') (za zeA <| za zdW <| zb _)
  ·rw [hall] at hc
   simp only [Bool.not_eq_true'] at hc
   rw [hfit,hf,hc,Bool.false_and]
  ·rw [hall] at hc
   simp only [Bool.not_eq_false'] at hc
   rw [hc,Bool.true_and,← htk] at hf
   exact ⟨⟨i+1,by omega,hf⟩,lew,by simp;omega⟩
 ·refine' zc hcmp
  rw [hfit,hf,hend,List.drop_length]
  rfl
@[go_sem] noncomputable def zdA:Ent Tryz.prog 246:= .m1 zN zua
theorem zub (d:Disk) (p:Plan) (hp:DiskOk d∧PlanOk p∧p.targets.length=p.texts.length):AC 72 [diskA d,planA p] (.tup [diskA (play d p).1,.d (.int .i64 (play d p).2)]):=by
 obtain ⟨hd,hp,hl⟩:=hp
 refine fbod Tryz.func72 Tryz.ntmps72 (fun base=>?_)
 have h1:=hp.targets
 have h2:=hp.texts
 refine' zc fx
 refine zo (fun q: { q:Nat×Disk // q.1≤p.targets.length∧DiskOk q.2∧play d p=layL q.2 ((p.targets.zip p.texts).drop q.1) } =>⟨[(2,true,.vp 0 0),(3,true,.vp 1 0),(4,true,.vp 2 0),(6,true,.d (.int .i64 q.1.1))],[(2,.var [.d (.str []),.nils 2,.d (.int .i64 0),.d (.bool false),.nils 1]),(1,.var [.d (.sl 1 (p.targets.map intD)),.d (.sl 1 (p.texts.map strD))]),(0,(.var [.d (.str q.1.2.data),.d (.sl 2 (q.1.2.cache.map putD)),.d (.int .i64 q.1.2.fuse),.d (.bool q.1.2.off),.d (.sl 1 (q.1.2.bad.map intD))]))],some []⟩) (fun q=>p.targets.length - q.1.1) ⟨(0,d),Nat.zero_le _,hd,rfl⟩ le1 (fun q=>?_)
 obtain ⟨⟨i,x⟩,hi,hx,hf⟩:=q
 simp only at hi hx hf ⊢
 rcases zD intD p.targets i hi with ⟨m,hq,hlt,hcmp,hrow,hdr,htk⟩|⟨hend,hcmp⟩
 ·obtain ⟨s,hq'⟩:=zai (l:=p.texts) (i:=i) (by omega)
  have hrow':=za1 (g:=strD) hq'
  simp only [intD] at hrow
  simp only [strD] at hrow'
  have hwi:=zn (i:=i) (by omega)
  have hcmp':decide ((i:Int)<(p.texts.length:Int))=true:=by rw [← hl];exact hcmp
  have hz:(p.targets.zip p.texts)[i]?=some (m,s):=List.getElem?_zip_eq_some.2 ⟨hq,hq'⟩
  rw [zdQ hz,layL] at hf
  have hxo:=zib hx m s
  refine' walkW (zS hcmp hcmp' hrow hrow') (za zG <| zb _)
  ·have hc:(zU x m s).2≠0:=by simpa using hc
   rw [hf,if_pos hc]
  ·have hc:¬(zU x m s).2≠0:=by simpa using hc
   rw [if_neg hc] at hf
   exact ⟨⟨(i+1,(zU x m s).1),by omega,hxo,hf⟩,lew,by simp;omega⟩
 ·refine' zc hcmp
  rw [hf,List.drop_of_length_le (by rw [List.length_zip];omega)]
  rfl
@[go_sem] noncomputable def zcR:Ent Tryz.prog 72:= .m2 zA zN zub
open Go Go.Proofs
theorem znk (p:Plan) (_:True):AC 278 [planA p] (.fn (.func 290) [] [.dp (planC p)]):=by
 refine fbod Tryz.func278 Tryz.ntmps278 (fun base=>?_)
 refine' zc fx
@[go_sem] noncomputable def zdt:Ent Tryz.prog 278:= .m1 zN znk
def zcA (q:Int×Txt):List AV:= [.d (.int .i64 q.1),.d (.str q.2)]
def unI:List AV→Int×Txt
 | [.d (.int _ n),.d (.str s)]=>(n,s)
 |_=>(0,[])
theorem zeD (ys:List (Int×Txt)):(ys.map zcA).map unI=ys:=by
 rw [List.map_map]
 exact List.map_id'' (fun _=>rfl) ys
abbrev Sst (p:Plan):= { q:Nat×List (List AV) // q.1≤p.targets.length∧q.2++((p.targets.zip p.texts).drop q.1).map zcA=(p.targets.zip p.texts).map zcA }
theorem zid (p:Plan) (hp:PlanOk p) (hl:p.targets.length=p.texts.length):AIter Tryz.prog 290 100 [] [.dp (planC p)] [] ((p.targets.zip p.texts).map zcA) (fun g h'=>(∀xs,g=some xs→xs=(p.targets.zip p.texts).map zcA)∧h'= []):=by
 refine itr Tryz.func290 Tryz.ntmps290 (fun base y=>?_)
 refine' zaz fx
 have h1:=hp.targets
 refine zo (fun q:Sst p=>⟨[(0,true,.fn (.yield y.yl) [] []),(1,true,.dp [.d (.sl 1 (p.targets.map intD)),.d (.sl 1 (p.texts.map strD))]),(6,true,.d (.sl 1 (p.targets.map intD))),(7,true,.d (.int .i64 p.targets.length)),(8,true,.d (.int .i64 q.1.1))],[],some q.1.2⟩) (fun q=>p.targets.length - q.1.1) ⟨(0,[]),Nat.zero_le _,rfl⟩ le1 (fun q=>?_)
 obtain ⟨⟨i,xs⟩,hi,hf⟩:=q
 simp only at hi hf ⊢
 rcases zD intD p.targets i hi with ⟨m,hq,hlt,hcmp,hrow,hdr,htk⟩|⟨hend,hcmp⟩
 ·obtain ⟨s,hq'⟩:=zai (l:=p.texts) (i:=i) (by omega)
  have hrow':=za1 (g:=strD) hq'
  simp only [intD] at hrow
  simp only [strD] at hrow'
  have hwi:=zn (i:=i) (by omega)
  have hcmp':decide ((i:Int)<(p.texts.length:Int))=true:=by rw [← hl];exact hcmp
  have hz:(p.targets.zip p.texts)[i]?=some (m,s):=List.getElem?_zip_eq_some.2 ⟨hq,hq'⟩
  rw [zdQ hz,List.map_cons] at hf
  have hpre:(xs++ [zcA (m,s)])<+:(p.targets.zip p.texts).map zcA:=by rw [← hf];simp
  simp only [zcA] at hpre
  refine' zaz (zaH hcmp hcmp' hrow hrow' natC)
  exact ⟨⟨(i+1,xs++ [zcA (m,s)]),by omega,by rw [← hf];simp⟩,by simp only [AS.le,leT,leH,zf,AsgK,AV.le,AV.leL,AObj.le,inH,idsT,idsH,AV.ids,AV.idsL,AV.idsR,AObj.ids,lk,hget,go_sem,aeq,aeq.aeqF,simprocAttr,hwi,zcA],by simp;omega⟩
 ·refine' zaz hcmp
  rintro zs rfl
  rw [← hf,List.drop_of_length_le (by rw [List.length_zip];omega)]
  simp
def layF (d:Disk) (l:List (Int×Txt)):Disk:=l.foldl (fun d q=>(zU d q.1 q.2).1) d
@[go_sem] theorem layF_nil (d:Disk):layF d []=d:=rfl
theorem zr5:∀ (l:List (Int×Txt)) {d:Disk},DiskOk d→DiskOk (layF d l)
 | [],_,h=>h
 |q::l,d,h=>zr5 l (zib h q.1 q.2)
theorem zr6 (d:Disk) (l:List (Int×Txt)) (q:Int×Txt):layF d (l++ [q])=(zU (layF d l) q.1 q.2).1:=by simp [layF]
theorem zhE:∀ (l r:List (Int×Txt)) (d:Disk),(layL d l).2=0→layL d (l++r)=layL (layF d l) r
 | [],r,d,_=>rfl
 | q::l,r,d,h=>by
  rw [layL] at h
  rw [List.cons_append,layL]
  split
  ·rename_i hq
   rw [if_pos hq] at h
   exact absurd h hq
  ·rename_i hq
   rw [if_neg hq] at h
   exact zhE l r _ h
theorem zwl (d:Disk) (p:Plan) (hp:DiskOk d∧PlanOk p∧p.targets.length=p.texts.length):AC 271 [diskA d,planA p] (.tup [diskA (play d p).1,.d (.int .i64 (play d p).2)]):=by
 obtain ⟨hd,hp,hl⟩:=hp
 refine fbod Tryz.func271 Tryz.ntmps271 (fun base=>?_)
 refine' walkR fx (za zdt <| za zt <| zb _)
 obtain ⟨I,hI⟩:∃I:List (List AV)→AHeap×Option (List (List AV)),I=fun xs=>([(3,.var [.d (.int .i64 0)]),(2,.var [.d (.str []),.nils 2,.d (.int .i64 0),.d (.bool false),.nils 1]),(1,.var [.d (.sl 1 (p.targets.map intD)),.d (.sl 1 (p.texts.map strD))]),(0,(.var [.d (.str (layF d (xs.map unI)).data),.d (.sl 2 ((layF d (xs.map unI)).cache.map putD)),.d (.int .i64 (layF d (xs.map unI)).fuse),.d (.bool (layF d (xs.map unI)).off),.d (.sl 1 ((layF d (xs.map unI)).bad.map intD))]))],some []):=⟨_,rfl⟩
 obtain ⟨G,hG⟩:∃G:List (List AV)→Prop,G=fun xs=>(layL d (xs.map unI)).2=0:=⟨_,rfl⟩
 obtain ⟨J,hJ⟩:∃J:Code→AHeap→Option (List (List AV))→Prop,J=fun c h g=>c= .exit 0∧g=some []∧∃D e,play d p=(D,e)∧h= [(3,.var [.d (.int .i64 e)]),(2,.var [.d (.str []),.nils 2,.d (.int .i64 0),.d (.bool false),.nils 1]),(1,.var [.d (.sl 1 (p.targets.map intD)),.d (.sl 1 (p.texts.map strD))]),(0,(.var [.d (.str D.data),.d (.sl 2 (D.cache.map putD)),.d (.int .i64 D.fuse),.d (.bool D.off),.d (.sl 1 (D.bad.map intD))]))]:=⟨_,rfl⟩
 refine zbz 100 G I J (zid p hp hl) (by simp only [go_sem,aeq,aeq.aeqF,simprocAttr]) rfl (z2 rfl) (by simp [cxOf,cxY]) rfl (by rw [hG];first|trivial|rfl|simp) (by rw [hI];simp only [AS.le,leT,leH,zf,AsgK,AV.le,AV.leL,AObj.le,inH,idsT,idsH,AV.ids,AV.idsL,AV.idsR,AObj.ids,lk,hget,go_sem,aeq,aeq.aeqF,simprocAttr]<;>simp [AV.leL,AV.le]) (by rw [hI];simp only [AS.le,leT,leH,zf,AsgK,AV.le,AV.leL,AObj.le,inH,idsT,idsH,AV.ids,AV.idsL,AV.idsR,AObj.ids,lk,hget,go_sem,aeq,aeq.aeqF,simprocAttr]<;>simp) (by rw [hI]<;>rfl) (by intro x hx;obtain ⟨q,_,rfl⟩:=List.mem_map.1 hx;rfl) (by intro t ht;simp at ht;first|(rcases ht with rfl|rfl<;>simp [cxOf,cxY]<;>done)|(subst ht;simp [cxOf,cxY])) ?_ ?_ ?_
 ·intro xs x hpre hgd l1 r1
  obtain ⟨ys,⟨n,s⟩,zs,rfl,rfl,hzl⟩:=zdT hpre
  rw [hG] at hgd
  simp only [zeD] at hgd
  have hx:=zr5 ys hd
  have hall:play d p=layL (layF d ys) ((n,s)::zs):=by rw [play,hzl,zhE _ _ _ hgd]
  rw [layL] at hall
  simp only [zcA]
  refine aw_le ⟨[(11,true,.d (.int .i64 n)),(12,true,.d (.str s)),(2,true,.vp 0 0),(3,true,.vp 1 0),(4,true,.vp 2 0),(6,true,.vp 3 0)],[(3,.var [.d (.int .i64 0)]),(2,.var [.d (.str []),.nils 2,.d (.int .i64 0),.d (.bool false),.nils 1]),(1,.var [.d (.sl 1 (p.targets.map intD)),.d (.sl 1 (p.texts.map strD))]),(0,(.var [.d (.str (layF d ys).data),.d (.sl 2 ((layF d ys).cache.map putD)),.d (.int .i64 (layF d ys).fuse),.d (.bool (layF d ys).off),.d (.sl 1 ((layF d ys).bad.map intD))]))],some []⟩ (by rw [hI];simp only [zeD];simp only [AS.le,leT,leH,zf,AsgK,AV.le,AV.leL,AObj.le,inH,idsT,idsH,AV.ids,AV.idsL,AV.idsR,AObj.ids,lk,hget,go_sem,aeq,aeq.aeqF,simprocAttr]) ?_
  have hsn:((ys.map zcA++ [[AV.d (.int .i64 n),AV.d (.str s)]]).map unI)=ys++ [(n,s)]:=by
   rw [List.map_append,zeD];rfl
  have hsf:layF d (ys++ [(n,s)])=(zU (layF d ys) n s).1:=zr6 _ _ _
  refine' walkR (zr hI hsn hsf) (za zdt <| za zt <| zb _)
  all_goals first|rfl|skip
  ·have hc:(zU (layF d ys) n s).2≠0:=by simpa using hc
   rw [hJ]
   exact ⟨rfl,rfl,_,_,by rw [hall,if_pos hc],rfl⟩
  ·have hc:(zU (layF d ys) n s).2=0:=by simpa using hc
   rw [hG]
   simp only [hsn]
   rw [zhE _ _ _ hgd,layL,if_neg (by simpa using hc)]
   rfl
  ·have hc:(zU (layF d ys) n s).2=0:=by simpa using hc
   rw [hc]
 ·intro hgd
  rw [hG] at hgd
  simp only [zeD] at hgd
  have hall:play d p=(layF d (p.targets.zip p.texts),0):=by
   have:=zhE (p.targets.zip p.texts) [] d hgd
   rw [List.append_nil] at this
   rw [play,this,layL]
  rw [hI]
  simp only [zeD]
  refine' zb9 fx
  rw [hall]
 ·rw [hJ]
  rintro c h3 g3 ⟨rfl,rfl,D,e,hall,rfl⟩
  refine' zb9 fx
  rw [hall]
@[go_sem] noncomputable def zgn:Ent Tryz.prog 271:= .m2 zA zN zwl
end Go.Aw
