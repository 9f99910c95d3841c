/-
 The program's devices: read.
-/
import Derived.Test.YtgkjmbopnaeanaaGreatPart9
set_option maxRecDepth 100000
set_option maxHeartbeats 2000000
set_option linter.unusedSimpArgs false
set_option linter.unusedVariables false
namespace Go.Aw
open Go Go.Proofs
theorem zpU (rows:List (List D)):ACall Tryz.prog 219 0 [.d (.sl 2 rows)] [] (fun r _=>r= .fn (.func 252) [] [.dp [.d (.sl 2 rows)]]):=by
 refine fbod Tryz.func219 Tryz.ntmps219 (fun base=>?_)
 refine' zc fx
noncomputable def zhh:Ent Tryz.prog 219:=Ent.of 219 (fun x:(List (List D))=>(fun (rows:List (List D))=>([.d (.sl 2 rows)]:List AV)) x) (fun x:(List (List D))=>(fun (rows:List (List D))=>(True:Prop)) x) (fun x:(List (List D))=>(fun (rows:List (List D))=>(.fn (.func 252) [] [.dp [.d (.sl 2 rows)]]:AV)) x) (fun x hp=>⟨rfl,zpU x⟩)
theorem zlw:∀x y:(List (List D)),(fun x:(List (List D))=>(fun (rows:List (List D))=>([.d (.sl 2 rows)]:List AV)) x) x=(fun x:(List (List D))=>(fun (rows:List (List D))=>([.d (.sl 2 rows)]:List AV)) x) y→x=y:=by
 intro x y h
 skip
 simpa only [List.cons.injEq,AV.d.injEq,AV.agg.injEq,AV.dp.injEq,AV.fn.injEq,AV.tup.injEq,AV.asl.injEq,Int.natCast_inj,D.int.injEq,D.str.injEq,D.bool.injEq,D.sl.injEq,Prod.mk.injEq,and_true,true_and,and_assoc] using h
@[go_sem] theorem ztY (rows:List (List D)):(zhh).e [.d (.sl 2 rows)]=some (True,.fn (.func 252) [] [.dp [.d (.sl 2 rows)]]):=Ent.of_app zlw (rows)
theorem zwd (d:Disk) (_:True):AC 188 [diskA d] (.fn (.func 218) [] [.dp (diskC d)]):=by
 refine fbod Tryz.func188 Tryz.ntmps188 (fun base=>?_)
 refine' zc fx
@[go_sem] noncomputable def zlx:Ent Tryz.prog 188:= .m1 zA zwd
def putAV (q:PutR):AV:= .agg [.d (.int .i64 q.1),.d (.str q.2)]
def backs:List PutR→List (Nat×PutR)
 | []=> []
 |q::r=>(r.length,q)::backs r
def zbF (x:Nat×PutR):List AV:= [.d (.int .i64 x.1),putAV x.2]
abbrev Bst (l:List PutR):= { q:Nat×List (List AV) // q.1≤l.length∧q.2++(backs (l.take q.1).reverse).map zbF=(backs l.reverse).map zbF }
theorem znf (l:List PutR) (hl:l.length≤9223372036854775807) (fl:Nat):AIter Tryz.prog 252 fl [] [.dp [.d (.sl 2 (l.map putD))]] [] ((backs l.reverse).map zbF) (fun g h'=>(∀xs,g=some xs→xs=(backs l.reverse).map zbF)∧h'= []):=by
 refine itr Tryz.func252 Tryz.ntmps252 (fun base y=>?_)
 refine' zaz fx
 have hw0:IntKind.i64.wrap ((l.length:Int) - 1)=(l.length:Int) - 1:=ze (by omega) (by omega)
 refine zo (fun q:Bst l=>⟨[(0,true,.fn (.yield y.yl) [] []),(1,true,.dp [.d (.sl 2 (l.map putD))]),(3,true,.d (.int .i64 ((q.1.1:Int) - 1)))],[],some q.1.2⟩) (fun q=>q.1.1) ⟨(l.length,[]),Nat.le_refl _,by rw [zew];rfl⟩ (by simp only [AS.le,leT,leH,zf,AsgK,AV.le,AV.leL,AObj.le,inH,idsT,idsH,AV.ids,AV.idsL,AV.idsR,AObj.ids,lk,hget,go_sem,aeq,aeq.aeqF,simprocAttr,hw0]) (fun q=>?_)
 obtain ⟨⟨i,xs⟩,hi,hf⟩:=q
 simp only at hi hf ⊢
 cases i with
 |zero=>
  have hz:decide ((0:Int)≤((0:Nat):Int) - 1)=false:=by decide
  refine' zaz hz
  rintro zs rfl
  rw [← hf];simp [backs]
 |succ i=>
  have hz:decide ((0:Int)≤((i+1:Nat):Int) - 1)=true:=decide_eq_true (by omega)
  have hi1:(((i+1:Nat):Int) - 1)=(i:Int):=by omega
  have hwi:IntKind.i64.wrap ((i:Int) - 1)=(i:Int) - 1:=ze (by omega) (by omega)
  obtain ⟨⟨n,s⟩,hq⟩:=zai (l:=l) (i:=i) (by omega)
  have hrow:=za1 (g:=putD) hq
  simp only [putD] at hrow
  have hil:(l.take i).length=i:=by rw [List.length_take];omega
  rw [zcz hq,List.reverse_append,List.reverse_singleton,List.singleton_append,backs,List.length_reverse,hil] at hf
  have hp:(xs++ [zbF (i,n,s)])<+:(backs l.reverse).map zbF:=by rw [← hf];simp
  simp only [zbF,putAV] at hp
  refine' zaz (zS hz hi1 hrow natC)
  exact ⟨⟨(i,xs++ [zbF (i,n,s)]),by omega,by rw [← hf];simp⟩,by simp only [AS.le,leT,leH,zf,AsgK,AV.le,AV.leL,AObj.le,inH,idsT,idsH,AV.ids,AV.idsL,AV.idsR,AObj.ids,lk,hget,go_sem,aeq,aeq.aeqF,simprocAttr,hwi,zbF,putAV],by simp⟩
def zdU (q:PutR):List AV:= [putAV q]
theorem zly:∀l:List PutR,(backs l).map (fun x=>x.2)=l
 | []=>rfl
 |q::l=>by rw [backs,List.map_cons,zly l]
theorem zoV (l:List PutR):((backs l).map zbF).map (fun x=>x.drop 1)=l.map zdU:=by
 have:(backs l).map zbF=(backs l).map (fun x=> .d (.int .i64 x.1)::zdU x.2):=rfl
 rw [this,List.map_map]
 have h2:(fun x:List AV=>x.drop 1) ∘ (fun x:Nat×PutR=>AV.d (.int .i64 x.1)::zdU x.2)=zdU ∘ (fun x=>x.2):=rfl
 rw [h2,← List.map_map,zly]
theorem ztZ {l:List PutR} {xs:List (List AV)} {x:Nat×PutR} (h:(xs++ [zbF x])<+:(backs l).map zbF):(xs.map (fun x=>x.drop 1)++ [zdU x.2])<+:l.map zdU:=by
 have:=h.map (fun x=>x.drop 1)
 rw [zoV,List.map_append] at this
 exact this
theorem zng (d:Disk) (hd:DiskOk d):AIter Tryz.prog 218 100 [] [.dp (diskC d)] [] (d.cache.reverse.map zdU) (fun g h'=>(∀xs,g=some xs→xs=d.cache.reverse.map zdU)∧h'= []):=by
 refine itr Tryz.func218 Tryz.ntmps218 (fun base y=>?_)
 refine ze9 ?_
 refine' walkX fx (za zhh <| zb _)
 obtain ⟨I,hI⟩:∃I:List (List AV)→AHeap×Option (List (List AV)),I=fun xs=>([(100,.var [.fn (.yield y.yl) [] []])],some (xs.map (fun x=>x.drop 1))):=⟨_,rfl⟩
 obtain ⟨G,hG⟩:∃G:List (List AV)→Prop,G=fun _=>True:=⟨_,rfl⟩
 obtain ⟨J,hJ⟩:∃J:Code→AHeap→Option (List (List AV))→Prop,J=fun c h g=>c= .ret∧h= [(100,.var [.fn (.yield y.yl) [] []])]∧g=none:=⟨_,rfl⟩
 refine zbz 200 G I J (znf d.cache hd.cache 200) (by simp only [go_sem,aeq,aeq.aeqF,simprocAttr]) rfl (z2 rfl) (by simp [cxOf,cxY]) rfl (by rw [hG];first|trivial|rfl|simp) (by rw [hI];simp only [AS.le,leT,leH,zf,AsgK,AV.le,AV.leL,AObj.le,inH,idsT,idsH,AV.ids,AV.idsL,AV.idsR,AObj.ids,lk,hget,go_sem,aeq,aeq.aeqF,simprocAttr]<;>simp [AV.leL,AV.le]) (by rw [hI];simp only [AS.le,leT,leH,zf,AsgK,AV.le,AV.leL,AObj.le,inH,idsT,idsH,AV.ids,AV.idsL,AV.idsR,AObj.ids,lk,hget,go_sem,aeq,aeq.aeqF,simprocAttr]<;>simp) (by rw [hI]<;>rfl) (by intro x hx;obtain ⟨q,_,rfl⟩:=List.mem_map.1 hx;rfl) (by intro t ht;simp at ht;first|(rcases ht with rfl|rfl<;>simp [cxOf,cxY]<;>done)|(subst ht;simp [cxOf,cxY])) ?_ ?_ ?_
 ·intro xs x hpre hgd l1 r1
  obtain ⟨⟨i,n,s⟩,hq,rfl⟩:=List.mem_map.1 (hpre.subset (List.mem_append_right _ (List.mem_singleton.2 rfl)))
  have hp:=ztZ hpre
  simp only [zbF,putAV,zdU] at hp ⊢
  refine aw_le ⟨[(9,true,.agg [.d (.int .i64 n),.d (.str s)]),(2,true,.vp 100 0)],[(100,.var [.fn (.yield y.yl) [] []])],some (xs.map (fun x=>x.drop 1))⟩ (by rw [hI];simp only [AS.le,leT,leH,zf,AsgK,AV.le,AV.leL,AObj.le,inH,idsT,idsH,AV.ids,AV.idsL,AV.idsR,AObj.ids,lk,hget,go_sem,aeq,aeq.aeqF,simprocAttr]) ?_
  refine' zaz hI
  ·rw [hG];trivial
  ·simp
  ·rw [hJ];exact ⟨rfl,rfl,rfl⟩
 ·intro _
  rw [hI]
  simp only [go_sem,aeq,aeq.aeqF,simprocAttr]
  rintro zs rfl
  exact zoV _
 ·rw [hJ]
  rintro c h3 g3 ⟨rfl,rfl,rfl⟩
  refine' zaz fx
def hitI (at_:Int):List AV→Bool
 | [.agg [.d (.int .i64 n),_]]=>n==at_
 |_=>false
theorem zkk (at_:Int):∀l:List PutR,(l.map zdU).any (hitI at_)=l.any (isPut at_)
 | []=>rfl
 |q::l=>by rw [List.map_cons,List.any_cons,List.any_cons,zkk at_ l];rfl
theorem zpV (d:Disk) (at_:Int) (hd:DiskOk d):AC 150 [diskA d,.d (.int .i64 at_)] (.tup [.d (.str (dread d at_).1),.d (.int .i64 (dread d at_).2)]):=by
 refine bod Tryz.func150 Tryz.ntmps150 (fun base=>?_)
 have hbl:=hd.bad
 have hdl:=hd.data
 refine' zhd (zbh 7) fx (za zkj <| za zdk <| za zlx <| zb _)
 all_goals first|(simp_all [dread];done)|skip
 have ht:there d at_=true:=by simp_all
 obtain ⟨ht0,ht1⟩:=there_iff.mp ht
 have hm:IntKind.i64.wrap (at_*64)=at_*64:=ze (by omega) (by omega)
 have hr:dread d at_=(sees d at_,0):=by simp_all [dread]
 refine' walkR hm (za zkj <| za zdk <| za zlx <| zb _)
 ·rw [List.length_drop];omega
 obtain ⟨S0,hS0⟩:∃S0,S0=(d.data.drop (at_*64).toNat).take 64:=⟨_,rfl⟩
 rw [← hS0]
 obtain ⟨I,hI⟩:∃I:List (List AV)→AHeap×Option (List (List AV)),I=fun xs=>([(2,.var [.d (.str S0)]),(1,.var [.d (.int .i64 at_)]),(0,(.var [.d (.str d.data),.d (.sl 2 (d.cache.map putD)),.d (.int .i64 d.fuse),.d (.bool d.off),.d (.sl 1 (d.bad.map intD))]))],some []):=⟨_,rfl⟩
 obtain ⟨G,hG⟩:∃G:List (List AV)→Prop,G=fun xs=>xs.any (hitI at_)=false:=⟨_,rfl⟩
 obtain ⟨J,hJ⟩:∃J:Code→AHeap→Option (List (List AV))→Prop,J=fun c h g=>c= .exit 1∧g=some []∧∃q,d.cache.reverse.find? (isPut at_)=some q∧h= [(100,.var [.d (.int .i64 q.1),.d (.str q.2)]),(2,.var [.d (.str q.2)]),(1,.var [.d (.int .i64 at_)]),(0,(.var [.d (.str d.data),.d (.sl 2 (d.cache.map putD)),.d (.int .i64 d.fuse),.d (.bool d.off),.d (.sl 1 (d.bad.map intD))]))]:=⟨_,rfl⟩
 refine zbz 100 G I J (zng d hd) (by simp only [go_sem,aeq,aeq.aeqF,simprocAttr]) rfl (z2 rfl) (by simp [cxOf,cxY]) rfl (by rw [hG];first|trivial|rfl|simp) (by rw [hI];simp only [AS.le,leT,leH,zf,AsgK,AV.le,AV.leL,AObj.le,inH,idsT,idsH,AV.ids,AV.idsL,AV.idsR,AObj.ids,lk,hget,go_sem,aeq,aeq.aeqF,simprocAttr]<;>simp [AV.leL,AV.le]) (by rw [hI];simp only [AS.le,leT,leH,zf,AsgK,AV.le,AV.leL,AObj.le,inH,idsT,idsH,AV.ids,AV.idsL,AV.idsR,AObj.ids,lk,hget,go_sem,aeq,aeq.aeqF,simprocAttr]<;>simp) (by rw [hI]<;>rfl) (by intro x hx;obtain ⟨q,_,rfl⟩:=List.mem_map.1 hx;rfl) (by intro t ht;simp at ht;first|(rcases ht with rfl|rfl<;>simp [cxOf,cxY]<;>done)|(subst ht;simp [cxOf,cxY])) ?_ ?_ ?_
 ·intro xs x hpre hgd l1 r1
  obtain ⟨ys,⟨n,s⟩,zs,rfl,rfl,hl⟩:=zdT hpre
  rw [hG,zkk] at hgd
  simp only [zdU,putAV]
  refine aw_le ⟨[(28,true,.agg [.d (.int .i64 n),.d (.str s)]),(3,true,.vp 1 0),(6,true,.vp 2 0)],[(2,.var [.d (.str S0)]),(1,.var [.d (.int .i64 at_)]),(0,(.var [.d (.str d.data),.d (.sl 2 (d.cache.map putD)),.d (.int .i64 d.fuse),.d (.bool d.off),.d (.sl 1 (d.bad.map intD))]))],some []⟩ (by rw [hI];simp only [AS.le,leT,leH,zf,AsgK,AV.le,AV.leL,AObj.le,inH,idsT,idsH,AV.ids,AV.idsL,AV.idsR,AObj.ids,lk,hget,go_sem,aeq,aeq.aeqF,simprocAttr]) ?_
  refine' zb9 hI
  ·rw [hJ]
   exact ⟨rfl,rfl,(n,s),by rw [hl];exact zpT hgd hc,rfl⟩
  ·rw [hG]
   show List.any (_++_) _=false
   rw [List.any_append,zkk,hgd]
   simpa [hitI] using hc
 ·intro hgd
  rw [hG,zkk] at hgd
  rw [hI]
  refine' zb9 fx
  rw [hr,sees,List.find?_eq_none.2 (fun x hx=>by simpa using List.any_eq_false.1 hgd x hx),hS0]
 ·rw [hJ]
  rintro c h3 g3 ⟨rfl,rfl,⟨n,s⟩,hq,rfl⟩
  refine' zb9 fx
  rw [hr,sees,hq]
@[go_sem] noncomputable def zv:Ent Tryz.prog 150:= .m2 zA (intT .i64) zpV
end Go.Aw
