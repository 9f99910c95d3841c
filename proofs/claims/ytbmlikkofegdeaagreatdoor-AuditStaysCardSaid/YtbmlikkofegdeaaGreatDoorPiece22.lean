/-
  Parts of the proof: DevE, DevF, Num, PackA, PackB, PackC (short names; the readable texts lie in the repo, under wip).
-/
import Derived.Test.YtbmlikkofegdeaaGreatDoorPiece21
import Derived.Test.YtbmlikkofegdeaaGreatDoorPiece17
import Derived.Laws.RangeString
import Derived.Laws.RangeAny
set_option maxRecDepth 100000
set_option maxHeartbeats 2000000
set_option linter.unusedSimpArgs false
set_option linter.unusedVariables false
namespace Go.Aw
open Go Go.Proofs
def dburn (d:Disk):Disk×Bool:=if d.fuse=0 then ({ d with off:=true },false) else (burnt d,true)
theorem zwP (d:Disk) (hd:DiskOk d):AC 255 [diskA d] (.tup [diskA (dburn d).1,.d (.bool (dburn d).2)]):=by
 refine fbod Tryz.func255 Tryz.ntmps255 (λbase=>?_);have h1:=hd.fuse1;have hw:0<d.fuse->IntKind.i64.wrap (d.fuse - 1)=d.fuse - 1:=λh=>zg (by omega) (by omega);refine' zc fx;all_goals by_cases h0:d.fuse=0
 all_goals by_cases h2:0<d.fuse
 all_goals simp_all [dburn,burnt]
 all_goals simp only [if_neg (show ¬0<d.fuse by omega)]
 all_goals simp
@[go_sem] noncomputable def zmj:Ent Tryz.prog 255:= .m1 zu zwP
theorem zjJ (l:List PutR) (fl:Nat) (hl:l.length<=5000):ACall Tryz.prog 256 fl [.d (.sl 2 (l.map putD))] [] (λr h'=>r= .osl fl 2 l.length 0 l.length/\h'= [(fl,.arr 2 (l.map putD))]):=by
 refine bod Tryz.func256 Tryz.ntmps256 (λbase=>?_);refine' zcj (zav 2) fx
 ·refine zi noTab (zb _) (λK hK=>?_);simp only [go_sem,aeq,aeq.aeqF,simprocAttr]
  (first|(refine hK _ ?_;clear hK K)|(clear hK K;refine hK _ ?_;clear hK K)|(clear hK K;clear hK K;refine hK _ ?_;clear hK K)|(clear hK K;clear hK K;clear hK K;refine hK _ ?_;clear hK K)|(clear hK K;clear hK K;clear hK K;clear hK K;refine hK _ ?_;clear hK K))
  refine zds 2 2 rfl ?_;have h0:l= []:=List.map_eq_nil_iff.1 (hnb hc);subst h0;refine' zc fx;all_goals rfl
theorem znO (d:Disk) (at_:Int) (s:Txt) (hd:DiskOk d):AC 213 [diskA d,.d (.int .i64 at_),.d (.str s)] (.tup [diskA (zM d at_ s).1,.d (.int .i64 (zM d at_ s).2)]):=by
 refine fbod Tryz.func213 Tryz.ntmps213 (λbase=>?_);have h1:=hd.bad;refine' zgF (zav 14) fx (za zlc <| za zdk <| za zmj <| zb _);all_goals first|(simp_all [zM];done)|(by_cases h0:d.fuse=0<;>simp_all [zM,dburn];done)|skip
 have hl:d.cache.length<=5000:=by simp_all;omega
 refine' zc fx;refine ((zjJ d.cache 3 hl).own rfl rfl (Nat.zero_le _) (by rintro r h' ⟨_,rfl⟩;rfl)).mono ?_;rintro r h' ⟨h1,⟨rfl,rfl⟩,rfl⟩;simp only [go_sem,aeq,aeq.aeqF,simprocAttr];refine ⟨by omega,by omega,?_⟩;refine' zc fx;have hr:d.cache.map putD++ [[.int .i64 at_,.str s]]=(d.cache++ [(at_,s)]).map putD:=by simp [putD]
 rw [hr,if_pos (by simp),List.take_of_length_le (by simp)];clear hr;by_cases h0:d.fuse=0
 ·simp_all [dburn]
 by_cases h6:4096<=(d.cache.length:Int)
 ·exfalso;simp_all
 by_cases h2:0<d.fuse
 ·simp only [zM,dburn,burnt,if_neg h6,if_neg h0,if_pos h2];simp_all
 ·simp only [zM,dburn,burnt,if_neg h6,if_neg h0,if_neg h2];simp_all
@[go_sem] noncomputable def zt:Ent Tryz.prog 213:= .m3 zu (intT .i64) strT znO
theorem zmk (n:Int) (_:True):AC 280 [.d (.int .i64 n)] (.d (.bool true)):=by refine bod Tryz.func280 Tryz.ntmps280 (λbase=>?_);refine' zc fx
@[go_sem] noncomputable def zgd:Ent Tryz.prog 280:= .m1 (intT .i64) zmk
theorem zqj (d:Disk) (hd:DiskOk d) (hf:d.cache.all (putOk d)=true):ACall Tryz.prog 279 0 [diskA d,.fn (.func 280) [] []] [] (λr _=>r= .d (.str (zcA d.data d.cache))):=by
 refine fbod Tryz.func279 Tryz.ntmps279 (λbase=>?_);refine' walkW fx (za zgd <| zb _);have hcl:=hd.cache;have hdl:=hd.data;refine zq (λq: { q:Nat×Txt // q.1<=d.cache.length/\q.2=zcA d.data (d.cache.take q.1)/\q.2.length=d.data.length } =>⟨[(1,true,.fn (.func 280) [] []),(5,true,.osl 1 1 (List.length d.data) 0 (List.length d.data)),(12,true,.d (.sl 2 (d.cache.map putD))),(13,true,.d (.int .i64 d.cache.length)),(14,true,.d (.int .i64 q.1.1))],[(1,.arr 1 (zj q.1.2)),(0,(.var [.d (.str d.data),.d (.sl 2 (d.cache.map putD)),.d (.int .i64 d.fuse),.d (.bool d.off),.d (.sl 1 (d.bad.map intD))]))],some []⟩) (λq=>d.cache.length - q.1.1) ⟨(0,d.data),Nat.zero_le _,rfl,rfl⟩ le1 (λq=>?_);obtain ⟨⟨i,b⟩,hi,hb,hbl⟩:=q;simp only at hi hb hbl ⊢;rcases zP putD d.cache i hi with ⟨⟨m,s⟩,hq,hlt,hcmp,hrow,hdr,htk⟩|⟨hend,hcmp⟩
 ·simp only [putD] at hrow;obtain ⟨p1,p2,p3⟩:=zwk hf hq;simp only at p1 p2 p3;have hwi:=zr (i:=i) (by omega);have hwm:IntKind.i64.wrap (m*64)=m*64:=zg (by omega) (by omega);have hst:=zmi (b:=d.data) hq;rw [<-hb] at hst;have hll:(lay b (m*64).toNat s).length=b.length:=zlb (by omega);have hb0:(zj b).length=d.data.length:=by rw [zj,List.length_map,hbl]
  refine' walkW (zbj hcmp hrow hwm @zpk hb0) (za zgd <| zb _)
  ·rw [zj,List.length_map];omega
  ·exact ⟨⟨(i+1,lay b (m*64).toNat s),by omega,hst.symm,hll.trans hbl⟩,lew,by simp;omega⟩
 ·have hb1:(d.data.length=(zj b).length)=True:=eq_true (by rw [zj,List.length_map,hbl]);have hb2:List.take d.data.length (zj b)=zj b:=List.take_of_length_le (by rw [zj,List.length_map,hbl];omega);refine' zc (zL hcmp hb1 hb2 @if_true.{1} @zap @zbt);rw [hb,hend,zgz]
@[go_sem] noncomputable def zml:Ent Tryz.prog 279:= .ofL (consL zu (consL (fnT 280 nilL) nilL)) (λ(d,_,_)=>(DiskOk d)/\(d.cache.all (putOk d)=true)) (λ(d,_,_)=> .d (.str (zcA d.data d.cache))) (λ(d,_,_) hp=>⟨rfl,zqj d hp.1 hp.2⟩)
theorem znP (d:Disk) (hp:DiskOk d/\d.cache.all (putOk d)=true):AC 242 [diskA d] (.tup [diskA (dflush d).1,.d (.int .i64 (dflush d).2)]):=by
 obtain ⟨hd,hf⟩:=hp;refine fbod Tryz.func242 Tryz.ntmps242 (λbase=>?_);refine' walkW fx (za zmj <| za zml <| zb _);all_goals first|(simp_all [dflush];done)|skip
 all_goals by_cases h0:d.fuse=0
 all_goals by_cases h2:0<d.fuse
 all_goals simp_all [dflush,dburn,burnt]
 all_goals simp only [if_neg (show ¬0<d.fuse by omega)]
 all_goals simp [*]
@[go_sem] noncomputable def zbS:Ent Tryz.prog 242:= .m1 zu znP
open Go Go.Proofs
theorem zqm (rows:List (List D)):ACall Tryz.prog 253 0 [.d (.sl 2 rows)] [] (λr _=>r= .fn (.func 284) [] [.dp [.d (.sl 2 rows)]]):=by refine fbod Tryz.func253 Tryz.ntmps253 (λbase=>?_);refine' zc fx
noncomputable def zhM:Ent Tryz.prog 253:=Ent.of 253 (λx:(List (List D))=>(λ(rows:List (List D))=>([.d (.sl 2 rows)]:List AV)) x) (λx:(List (List D))=>(λ(rows:List (List D))=>(True:Prop)) x) (λx:(List (List D))=>(λ(rows:List (List D))=>(.fn (.func 284) [] [.dp [.d (.sl 2 rows)]]:AV)) x) (λx hp=>⟨rfl,zqm x⟩)
theorem zmn:∀x y:(List (List D)),(λx:(List (List D))=>(λ(rows:List (List D))=>([.d (.sl 2 rows)]:List AV)) x) x=(λx:(List (List D))=>(λ(rows:List (List D))=>([.d (.sl 2 rows)]:List AV)) x) y->x=y:=by
 intro x y h
 skip
 simpa only [List.cons.injEq,AV.d.injEq,AV.agg.injEq,AV.dp.injEq,AV.fn.injEq,AV.tup.injEq,AV.asl.injEq,Int.natCast_inj,D.int.injEq,D.str.injEq,D.bool.injEq,D.sl.injEq,Prod.mk.injEq,and_true,true_and,and_assoc] using h
@[go_sem] theorem zuG (rows:List (List D)):(zhM).e [.d (.sl 2 rows)]=some (True,.fn (.func 284) [] [.dp [.d (.sl 2 rows)]]):=Ent.of_app zmn (rows)
theorem zwQ (d:Disk) (_:True):AC 208 [diskA d] (.fn (.func 252) [] [.dp (diskC d)]):=by refine fbod Tryz.func208 Tryz.ntmps208 (λbase=>?_);refine' zc fx
@[go_sem] noncomputable def zmo:Ent Tryz.prog 208:= .m1 zu zwQ
def putAV (q:PutR):AV:= .agg [.d (.int .i64 q.1),.d (.str q.2)]
def backs:List PutR->List (Nat×PutR)
 | []=> []
 |q::r=>(r.length,q)::backs r
def zbE (x:Nat×PutR):List AV:= [.d (.int .i64 x.1),putAV x.2]
abbrev Bst (l:List PutR):= { q:Nat×List (List AV) // q.1<=l.length/\q.2++(backs (l.take q.1).reverse).map zbE=(backs l.reverse).map zbE }
theorem znQ (l:List PutR) (hl:l.length<=9223372036854775807) (fl:Nat):AIter Tryz.prog 284 fl [] [.dp [.d (.sl 2 (l.map putD))]] [] ((backs l.reverse).map zbE) (λg h'=>(∀xs,g=some xs->xs=(backs l.reverse).map zbE)/\h'= []):=by
 refine itr Tryz.func284 Tryz.ntmps284 (λbase y=>?_);refine' z7 fx;have hw0:IntKind.i64.wrap ((l.length:Int) - 1)=(l.length:Int) - 1:=zg (by omega) (by omega);refine zq (λq:Bst l=>⟨[(0,true,.fn (.yield y.yl) [] []),(1,true,.dp [.d (.sl 2 (l.map putD))]),(3,true,.d (.int .i64 ((q.1.1:Int) - 1)))],[],some q.1.2⟩) (λq=>q.1.1) ⟨(l.length,[]),Nat.le_refl _,by rw [zgz];rfl⟩ (by simp only [AS.le,leT,leH,zf,AsgK,AV.le,AV.leL,AObj.le,inH,idsT,idsH,AV.ids,AV.idsL,AV.idsR,AObj.ids,lk,hget,go_sem,aeq,aeq.aeqF,simprocAttr,hw0]) (λq=>?_);obtain ⟨⟨i,xs⟩,hi,hf⟩:=q;simp only at hi hf ⊢;cases i with
 |zero=>
  have hz:decide ((0:Int)<=((0:Nat):Int) - 1)=false:=by decide
  refine' z7 hz;rintro zs rfl;rw [<-hf];simp [backs]
 |succ i=>
  have hz:decide ((0:Int)<=((i+1:Nat):Int) - 1)=true:=decide_eq_true (by omega);have hi1:(((i+1:Nat):Int) - 1)=(i:Int):=by omega
  have hwi:IntKind.i64.wrap ((i:Int) - 1)=(i:Int) - 1:=zg (by omega) (by omega);obtain ⟨⟨n,s⟩,hq⟩:=zas (l:=l) (i:=i) (by omega);have hrow:=zco (g:=putD) hq;simp only [putD] at hrow;have hil:(l.take i).length=i:=by rw [List.length_take];omega
  rw [zb7 hq,List.reverse_append,List.reverse_singleton,List.singleton_append,backs,List.length_reverse,hil] at hf;have hp:(xs++ [zbE (i,n,s)])<+:(backs l.reverse).map zbE:=by rw [<-hf];simp
  simp only [zbE,putAV] at hp;refine' z7 (zah hz hi1 hrow natC);exact ⟨⟨(i,xs++ [zbE (i,n,s)]),by omega,by rw [<-hf];simp⟩,by simp only [AS.le,leT,leH,zf,AsgK,AV.le,AV.leL,AObj.le,inH,idsT,idsH,AV.ids,AV.idsL,AV.idsR,AObj.ids,lk,hget,go_sem,aeq,aeq.aeqF,simprocAttr,hwi,zbE,putAV],by simp⟩
def zdS (q:PutR):List AV:= [putAV q]
theorem zmp:∀l:List PutR,(backs l).map (λx=>x.2)=l
 | []=>rfl
 |q::l=>by rw [backs,List.map_cons,zmp l]
theorem zpl (l:List PutR):((backs l).map zbE).map (λx=>x.drop 1)=l.map zdS:=by have:(backs l).map zbE=(backs l).map (λx=> .d (.int .i64 x.1)::zdS x.2):=rfl;rw [this,List.map_map];have h2:(λx:List AV=>x.drop 1) ∘ (λx:Nat×PutR=>AV.d (.int .i64 x.1)::zdS x.2)=zdS ∘ (λx=>x.2):=rfl;rw [h2,<-List.map_map,zmp]
theorem zuH {l:List PutR} {xs:List (List AV)} {x:Nat×PutR} (h:(xs++ [zbE x])<+:(backs l).map zbE):(xs.map (λx=>x.drop 1)++ [zdS x.2])<+:l.map zdS:=by have:=h.map (λx=>x.drop 1);rw [zpl,List.map_append] at this;exact this
theorem znR (d:Disk) (hd:DiskOk d):AIter Tryz.prog 252 100 [] [.dp (diskC d)] [] (d.cache.reverse.map zdS) (λg h'=>(∀xs,g=some xs->xs=d.cache.reverse.map zdS)/\h'= []):=by
 refine itr Tryz.func252 Tryz.ntmps252 (λbase y=>?_);refine zfq ?_;refine' walkX fx (za zhM <| zb _);obtain ⟨I,hI⟩:∃I:List (List AV)->AHeap×Option (List (List AV)),I=λxs=>([(100,.var [.fn (.yield y.yl) [] []])],some (xs.map (λx=>x.drop 1))):=⟨_,rfl⟩
 obtain ⟨G,hG⟩:∃G:List (List AV)->Prop,G=λ_=>True:=⟨_,rfl⟩
 obtain ⟨J,hJ⟩:∃J:Code->AHeap->Option (List (List AV))->Prop,J=λc h g=>c= .ret/\h= [(100,.var [.fn (.yield y.yl) [] []])]/\g=none:=⟨_,rfl⟩
 refine zbk 200 G I J (znQ d.cache hd.cache 200) (by simp only [go_sem,aeq,aeq.aeqF,simprocAttr]) rfl (zJ rfl) (by simp [cxOf,cxY]) rfl (by rw [hG];first|trivial|rfl|simp) (by rw [hI];simp only [AS.le,leT,leH,zf,AsgK,AV.le,AV.leL,AObj.le,inH,idsT,idsH,AV.ids,AV.idsL,AV.idsR,AObj.ids,lk,hget,go_sem,aeq,aeq.aeqF,simprocAttr]<;>simp [AV.leL,AV.le]) (by rw [hI];simp only [AS.le,leT,leH,zf,AsgK,AV.le,AV.leL,AObj.le,inH,idsT,idsH,AV.ids,AV.idsL,AV.idsR,AObj.ids,lk,hget,go_sem,aeq,aeq.aeqF,simprocAttr]<;>simp) (by rw [hI]<;>rfl) (by intro x hx;obtain ⟨q,_,rfl⟩:=List.mem_map.1 hx;rfl) (by intro t ht;simp at ht;first|(rcases ht with rfl|rfl<;>simp [cxOf,cxY]<;>done)|(subst ht;simp [cxOf,cxY])) ?_ ?_ ?_
 ·intro xs x hpre hgd l1 r1;obtain ⟨⟨i,n,s⟩,hq,rfl⟩:=List.mem_map.1 (hpre.subset (List.mem_append_right _ (List.mem_singleton.2 rfl)));have hp:=zuH hpre;simp only [zbE,putAV,zdS] at hp ⊢;refine aw_le ⟨[(9,true,.agg [.d (.int .i64 n),.d (.str s)]),(2,true,.vp 100 0)],[(100,.var [.fn (.yield y.yl) [] []])],some (xs.map (λx=>x.drop 1))⟩ (by rw [hI];simp only [AS.le,leT,leH,zf,AsgK,AV.le,AV.leL,AObj.le,inH,idsT,idsH,AV.ids,AV.idsL,AV.idsR,AObj.ids,lk,hget,go_sem,aeq,aeq.aeqF,simprocAttr]) ?_;refine' z7 hI
  ·rw [hG];trivial
  ·simp
  ·rw [hJ];exact ⟨rfl,rfl,rfl⟩
 ·intro _;rw [hI];simp only [go_sem,aeq,aeq.aeqF,simprocAttr];rintro zs rfl;exact zpl _
 ·rw [hJ];rintro c h3 g3 ⟨rfl,rfl,rfl⟩;refine' z7 fx
def hitI (at_:Int):List AV->Bool
 | [.agg [.d (.int .i64 n),_]]=>n==at_
 |_=>false
theorem zld (at_:Int):∀l:List PutR,(l.map zdS).any (hitI at_)=l.any (isPut at_)
 | []=>rfl
 |q::l=>by rw [List.map_cons,List.any_cons,List.any_cons,zld at_ l];rfl
theorem zqn (d:Disk) (at_:Int) (hd:DiskOk d):AC 147 [diskA d,.d (.int .i64 at_)] (.tup [.d (.str (dread d at_).1),.d (.int .i64 (dread d at_).2)]):=by
 refine bod Tryz.func147 Tryz.ntmps147 (λbase=>?_);have hbl:=hd.bad;have hdl:=hd.data;refine' zki (zav 7) fx (za zlc <| za zdk <| za zmo <| zb _);all_goals first|(simp_all [dread];done)|skip
 have ht:there d at_=true:=by simp_all
 obtain ⟨ht0,ht1⟩:=there_iff.mp ht;have hm:IntKind.i64.wrap (at_*64)=at_*64:=zg (by omega) (by omega);have hr:dread d at_=(sees d at_,0):=by simp_all [dread]
 refine' walkR hm (za zlc <| za zdk <| za zmo <| zb _)
 ·rw [List.length_drop];omega
 obtain ⟨S0,hS0⟩:∃S0,S0=(d.data.drop (at_*64).toNat).take 64:=⟨_,rfl⟩
 rw [<-hS0];obtain ⟨I,hI⟩:∃I:List (List AV)->AHeap×Option (List (List AV)),I=λxs=>([(2,.var [.d (.str S0)]),(1,.var [.d (.int .i64 at_)]),(0,(.var [.d (.str d.data),.d (.sl 2 (d.cache.map putD)),.d (.int .i64 d.fuse),.d (.bool d.off),.d (.sl 1 (d.bad.map intD))]))],some []):=⟨_,rfl⟩
 obtain ⟨G,hG⟩:∃G:List (List AV)->Prop,G=λxs=>xs.any (hitI at_)=false:=⟨_,rfl⟩
 obtain ⟨J,hJ⟩:∃J:Code->AHeap->Option (List (List AV))->Prop,J=λc h g=>c= .exit 1/\g=some []/\∃q,d.cache.reverse.find? (isPut at_)=some q/\h= [(100,.var [.d (.int .i64 q.1),.d (.str q.2)]),(2,.var [.d (.str q.2)]),(1,.var [.d (.int .i64 at_)]),(0,(.var [.d (.str d.data),.d (.sl 2 (d.cache.map putD)),.d (.int .i64 d.fuse),.d (.bool d.off),.d (.sl 1 (d.bad.map intD))]))]:=⟨_,rfl⟩
 refine zbk 100 G I J (znR d hd) (by simp only [go_sem,aeq,aeq.aeqF,simprocAttr]) rfl (zJ rfl) (by simp [cxOf,cxY]) rfl (by rw [hG];first|trivial|rfl|simp) (by rw [hI];simp only [AS.le,leT,leH,zf,AsgK,AV.le,AV.leL,AObj.le,inH,idsT,idsH,AV.ids,AV.idsL,AV.idsR,AObj.ids,lk,hget,go_sem,aeq,aeq.aeqF,simprocAttr]<;>simp [AV.leL,AV.le]) (by rw [hI];simp only [AS.le,leT,leH,zf,AsgK,AV.le,AV.leL,AObj.le,inH,idsT,idsH,AV.ids,AV.idsL,AV.idsR,AObj.ids,lk,hget,go_sem,aeq,aeq.aeqF,simprocAttr]<;>simp) (by rw [hI]<;>rfl) (by intro x hx;obtain ⟨q,_,rfl⟩:=List.mem_map.1 hx;rfl) (by intro t ht;simp at ht;first|(rcases ht with rfl|rfl<;>simp [cxOf,cxY]<;>done)|(subst ht;simp [cxOf,cxY])) ?_ ?_ ?_
 ·intro xs x hpre hgd l1 r1;obtain ⟨ys,⟨n,s⟩,zs,rfl,rfl,hl⟩:=zcS hpre;rw [hG,zld] at hgd;simp only [zdS,putAV];refine aw_le ⟨[(28,true,.agg [.d (.int .i64 n),.d (.str s)]),(3,true,.vp 1 0),(6,true,.vp 2 0)],[(2,.var [.d (.str S0)]),(1,.var [.d (.int .i64 at_)]),(0,(.var [.d (.str d.data),.d (.sl 2 (d.cache.map putD)),.d (.int .i64 d.fuse),.d (.bool d.off),.d (.sl 1 (d.bad.map intD))]))],some []⟩ (by rw [hI];simp only [AS.le,leT,leH,zf,AsgK,AV.le,AV.leL,AObj.le,inH,idsT,idsH,AV.ids,AV.idsL,AV.idsR,AObj.ids,lk,hget,go_sem,aeq,aeq.aeqF,simprocAttr]) ?_;refine' zaO hI
  ·rw [hJ];exact ⟨rfl,rfl,(n,s),by rw [hl];exact zql hgd hc,rfl⟩
  ·rw [hG];show List.any (_++_) _=false;rw [List.any_append,zld,hgd];simpa [hitI] using hc
 ·intro hgd;rw [hG,zld] at hgd;rw [hI];refine' zaO fx;rw [hr,sees,List.find?_eq_none.2 (λx hx=>by simpa using List.any_eq_false.1 hgd x hx),hS0]
 ·rw [hJ];rintro c h3 g3 ⟨rfl,rfl,⟨n,s⟩,hq,rfl⟩;refine' zaO fx;rw [hr,sees,hq]
@[go_sem] noncomputable def zv:Ent Tryz.prog 147:= .m2 zu (intT .i64) zqn
open Go Go.Proofs
def putN (n:Nat):Nat->Txt
 |0=> []
 |k+1=>putN (n / 256) k++ [UInt8.ofNat n]
def takeN (l:Txt):Nat:=l.foldl (λn c=>n*256+c.toNat) 0
theorem zmq (l:Txt) (i:Nat) (b:UInt8):(zj l).set i (zfk b)=zj (l.set i b):=by
 simp [zj,List.map_set]
theorem zcp (l:Txt):(zj l).length=l.length:=by simp [zj]
theorem zhN {b:Txt} {k:Nat} (hk:k<b.length):(zj b).getD k []= [.int .u8 (b.getD k 0).toNat]:=by
 simp [zj,List.getD_eq_getElem?_getD,hk,zfk]
theorem zmr {b:Txt} {k:Nat} {x:Int} (hk:k<b.length) (c:UInt8) (hx:x=c.toNat):(zj b).set k (((zj b).getD k []).set 0 (D.int .u8 x))=zj (b.set k c):=by rw [zhN hk,List.set_cons_zero,hx];exact zmq b k c
theorem zuI {b:Txt} {k:Nat} (hk:k<b.length) (c:UInt8):(b.set k c).drop k=c::b.drop (k+1):=by
 rw [List.drop_set,if_neg (by omega),Nat.sub_self,List.drop_eq_getElem_cons hk,List.set_cons_zero]
theorem zK (n k:Nat):(putN n k).length=k:=by
 induction k generalizing n with
 |zero=>rfl
 |succ k ih=>rw [putN,List.length_append,ih];rfl
theorem ziH (n i:Nat):putN n (i+1)=UInt8.ofNat (n / 256 ^ i)::putN n i:=by
 induction i generalizing n with
 |zero=>simp [putN]
 |succ i ih=>
  rw [putN,ih,putN,List.cons_append,Nat.div_div_eq_div_mul,Nat.pow_succ,Nat.mul_comm 256]
theorem zwm (n k:Nat) (hk:k<=64):ishr .u64 (n:Int) (k:Int)=((n / 2 ^ k:Nat):Int):=by unfold ishr;rw [show min ((k:Int).toNat) IntKind.u64.bits=k by show min ((k:Int).toNat) 64=k;omega];rw [Int.fdiv_eq_ediv_of_nonneg _ (Int.le_of_lt (Int.pow_pos (by decide)))];norm_cast
theorem u8_of (n:Nat):IntKind.u8.wrap (n:Int)=((UInt8.ofNat n).toNat:Int):=by rw [IntKind.wrap_u8];simp
theorem zuJ {n:Int} (h0:0<=n) {i:Nat} (hi:i<=8):IntKind.u8.wrap (ishr .u64 n ((8*i:Nat):Int))=((UInt8.ofNat (n.toNat / 256 ^ i)).toNat:Int):=by
 obtain ⟨m,rfl⟩:∃m:Nat,n=m:=⟨n.toNat,by omega⟩
 rw [zwm m _ (by omega),u8_of,Int.toNat_natCast,Nat.pow_mul]
theorem zhh (l:Txt) (c:UInt8):takeN (l++ [c])=takeN l*256+c.toNat:=by
 simp [takeN,List.foldl_append]
theorem zpm (l:Txt):takeN l<256 ^ l.length:=by
 rcases List.eq_nil_or_concat l with rfl|⟨l',c,rfl⟩
 ·decide
 ·rw [List.concat_eq_append,zhh,List.length_append,List.length_singleton,Nat.pow_succ];have:=zpm l';have:=c.toNat_lt;have h2:takeN l'+1<=256 ^ l'.length:=by omega
  have:=Nat.mul_le_mul_right 256 h2;omega
termination_by l.length
decreasing_by subst_vars;simp
theorem zcg {l:Txt} {i:Nat} (h:l.length<=i):takeN l<256 ^ i:=Nat.lt_of_lt_of_le (zpm l) (Nat.pow_le_pow_right (by decide) h)
theorem zad {x:Int} (h0:0<=x) (h1:x<18446744073709551616):IntKind.u64.wrap x=x:=by
 rw [IntKind.wrap_u64];omega
theorem zsi {l:Txt} {i:Nat} {c:UInt8} (hq:l[i]?=some c) (hi:i<8):IntKind.u64.wrap (IntKind.u64.wrap ((takeN (l.take i):Nat)*256)+IntKind.u64.wrap (c.toNat:Int))=((takeN (l.take (i+1)):Nat):Int):=by have h1:takeN (l.take i)<256 ^ 7:=zcg (by rw [List.length_take];omega);have h2:=c.toNat_lt;rw [zad (x:=(takeN (l.take i):Nat)*256) (by omega) (by omega),zad (x:=(c.toNat:Int)) (by omega) (by omega),zad (by omega) (by omega),zb7 hq,zhh];omega
open Go Go.Proofs
def padS (s:Txt) (n:Int):Txt×Int:=if n<s.length\/65536<n then ([],11) else (s++List.replicate (n - s.length).toNat 0,0)
def overS (s:Txt) (at_:Int) (t:Txt):Txt×Int:=if at_<0\/(s.length:Int) - t.length<at_ then ([],10) else (s.take at_.toNat++t++s.drop (at_+t.length).toNat,0)
def putS8 (n:Int) (size:Int):Txt:=if size<1\/8<size then [] else putN n.toNat size.toNat
def takeS (s:Txt) (size:Int):Int×Txt×Int:=if size<1\/8<size then (0,[],25) else if (s.length:Int)<size then (0,[],22) else ((takeN (s.take size.toNat):Int),s.drop size.toNat,0)
def nameB (c:UInt8):Bool:=decide (33<=c.toNat)&&decide (c.toNat<=126)
def zaq (s:Txt):Bool:=s.all nameB&&(s != []&&decide (s.length<=8))
theorem zuK (s:Txt) (n:Int) (hs:s.length<=9223372036854775807):AC 151 [.d (.str s),.d (.int .i64 n)] (.tup [.d (.str (padS s n).1),.d (.int .i64 (padS s n).2)]):=by
 refine fbod Tryz.func151 Tryz.ntmps151 (λbase=>?_);by_cases h:n<s.length\/65536<n
 ·have hdec:(decide (n<(s.length:Int))||decide (65536<n))=true:=by simpa using h
  refine' zc hdec;rw [padS,if_pos h]
 ·have hdec:(decide (n<(s.length:Int))||decide (65536<n))=false:=by simpa using h
  have hm:IntKind.i64.wrap (n - s.length)=n - s.length:=zg (by omega) (by omega);refine' zc (zL hdec hm @zex @ziF @zla @if_true.{1})
  ·exact zbt _
  ·rw [zap,List.length_replicate];omega
  ·simp only [padS,if_neg h,zap]
@[go_sem] noncomputable def zez:Ent Tryz.prog 151:= .m2 strT (intT .i64) zuK
theorem zpn {a b c:Int} :(decide (a<0)||decide (b<c)||decide (b - c<a))=(decide (a<0)||decide (b - c<a)):=by
 by_cases h1:a<0
 ·simp [h1]
 ·by_cases h2:b<c
  ·rw [decide_eq_true h2,decide_eq_true (p:=b - c<a) (by omega)];simp
  ·rw [decide_eq_false h2];simp
theorem zsj (s:Txt) (at_:Int) (t:Txt) (hp:s.length<=9223372036854775807/\t.length<=9223372036854775807):AC 99 [.d (.str s),.d (.int .i64 at_),.d (.str t)] (.tup [.d (.str (overS s at_ t).1),.d (.int .i64 (overS s at_ t).2)]):=by
 obtain ⟨hs,ht⟩:=hp;refine bod Tryz.func99 Tryz.ntmps99 (λbase=>?_);have hm:IntKind.i64.wrap ((s.length:Int) - t.length)=(s.length:Int) - t.length:=zg (by omega) (by omega);by_cases h:at_<0\/(s.length:Int) - t.length<at_
 ·have hdec:(decide (at_<0)||decide ((s.length:Int) - t.length<at_))=true:=by simpa using h
  refine' zc (zB hm @zpn hdec);rw [overS,if_pos h]
 ·have hdec:(decide (at_<0)||decide ((s.length:Int) - t.length<at_))=false:=by simpa using h
  have hm2:IntKind.i64.wrap (at_+t.length)=at_+t.length:=zg (by omega) (by omega);refine' zc (zah hm @zpn hdec hm2)
  ·rw [List.length_take];omega
  ·simp;omega
  ·simp only [overS,if_neg h]
@[go_sem] noncomputable def znS:Ent Tryz.prog 99:= .m3 strT (intT .i64) strT zsj
theorem zuL (n size:Int) (hp:0<=n/\n<18446744073709551616):AC 143 [.d (.int .u64 n),.d (.int .i64 size)] (.d (.str (putS8 n size))):=by
 obtain ⟨h0,h1⟩:=hp;refine fbod Tryz.func143 Tryz.ntmps143 (λbase=>?_);by_cases h:size<1\/8<size
 ·have hdec:(decide (size<1)||decide (8<size))=true:=by simpa using h
  refine' zc hdec;rw [putS8,if_pos h]
 ·have hdec:(decide (size<1)||decide (8<size))=false:=by simpa using h
  obtain ⟨z,rfl,hz8⟩:∃z:Nat,size=(z:Int)/\z<=8:=⟨size.toNat,by omega,by omega⟩
  refine' zc (zn hdec natC);refine zq (λq: { q:Nat×Txt // q.1<=z/\q.2.length=z/\q.2.drop (z - q.1)=putN n.toNat q.1 } =>⟨[(0,true,.d (.int .u64 n)),(1,true,.d (.int .i64 z)),(5,true,.osl 0 1 z 0 z),(6,true,.d (.int .i64 q.1.1))],[(0,.arr 1 (zj q.1.2))],some []⟩) (λq=>z - q.1.1) ⟨(0,List.replicate z 0),Nat.zero_le _,by simp,by simp [putN]⟩ (by simp only [AS.le,leT,leH,zf,AsgK,AV.le,AV.leL,AObj.le,inH,idsT,idsH,AV.ids,AV.idsL,AV.idsR,AObj.ids,lk,hget,go_sem,aeq,aeq.aeqF,simprocAttr,zex]<;>and_intros<;>rfl) (λq=>?_);obtain ⟨⟨i,b⟩,hi,hbl,hbd⟩:=q;simp only at hi hbl hbd ⊢;rcases Nat.lt_or_ge i z with hlt|hge
  ·have hcmp:decide ((i:Int)<(z:Int))=true:=decide_eq_true (by omega);have hwi:=zr (i:=i) (by omega);have hm1:IntKind.i64.wrap ((z:Int) - 1)=(z:Int) - 1:=zg (by omega) (by omega);have hm2:IntKind.i64.wrap ((z:Int) - 1 - i)=((z - 1 - i:Nat):Int):=by rw [zg (by omega) (by omega)];omega
   have hm3:IntKind.i64.wrap (8*(i:Int))=((8*i:Nat):Int):=by rw [zg (by omega) (by omega)];omega
   have hb0:(zj b).length=z:=by rw [zj,List.length_map,hbl]
   have hbp:=zmr (b:=b) (k:=z - 1 - i) (by omega) _ (zuJ h0 (i:=i) (by omega));have hzi:z - 1 - i+1=z - i:=by omega
   refine' zc (zL hcmp hm1 hm2 hm3 hb0 natC);exact ⟨⟨(i+1,b.set (z - 1 - i) (UInt8.ofNat (n.toNat / 256 ^ i))),by omega,by simpa using hbl,by rw [ziH,<-hbd,<-hzi,<-zuI (by omega)];congr 1;omega⟩,by simp only [AS.le,leT,leH,zf,AsgK,AV.le,AV.leL,AObj.le,inH,idsT,idsH,AV.ids,AV.idsL,AV.idsR,AObj.ids,lk,hget,go_sem,aeq,aeq.aeqF,simprocAttr,hwi,hbp],by simp;omega⟩
  ·have hcmp:decide ((i:Int)<(z:Int))=false:=decide_eq_false (by omega);have hb1:(z=(zj b).length)=True:=eq_true (by rw [zj,List.length_map,hbl]);have hb2:List.take z (zj b)=zj b:=List.take_of_length_le (by rw [zj,List.length_map,hbl];omega);refine' zc (zL hcmp hb1 hb2 @if_true.{1} @zap @zbt);have:i=z:=by omega
   subst this;rw [Nat.sub_self,List.drop_zero] at hbd;rw [putS8,if_neg h,Int.toNat_natCast,hbd]
@[go_sem] noncomputable def zat:Ent Tryz.prog 143:= .m2 (intT .u64) (intT .i64) zuL
theorem zsk (s:Txt) (size:Int) (hs:s.length<=9223372036854775807):AC 68 [.d (.str s),.d (.int .i64 size)] (.tup [.d (.int .u64 (takeS s size).1),.d (.str (takeS s size).2.1),.d (.int .i64 (takeS s size).2.2)]):=by
 refine bod Tryz.func68 Tryz.ntmps68 (λbase=>?_);by_cases h:size<1\/8<size
 ·have hdec:(decide (size<1)||decide (8<size))=true:=by simpa using h
  refine' zc hdec;rw [takeS,if_pos h]
 ·have hdec:(decide (size<1)||decide (8<size))=false:=by simpa using h
  obtain ⟨z,rfl,hz8⟩:∃z:Nat,size=(z:Int)/\z<=8:=⟨size.toNat,by omega,by omega⟩
  refine' zc (zn hdec natC)
  ·have hc:(s.length:Int)<z:=by simpa using hc
   simp only [takeS,if_neg h,if_pos hc]
  have hc:¬(s.length:Int)<z:=by simpa using hc
  refine zq (λq: { i:Nat // i<=z } =>⟨[(0,true,.d (.str s)),(1,true,.d (.int .i64 z)),(7,true,.d (.int .u64 (takeN (s.take q.1)))),(8,true,.d (.int .i64 q.1))],[],some []⟩) (λq=>z - q.1) ⟨0,Nat.zero_le _⟩ le1 (λq=>?_);obtain ⟨i,hi⟩:=q;simp only at hi ⊢;rcases Nat.lt_or_ge i z with hlt|hge
  ·have hcmp:decide ((i:Int)<(z:Int))=true:=decide_eq_true (by omega);have hwi:=zr (i:=i) (by omega);obtain ⟨c,hq⟩:=zas (l:=s) (i:=i) (by omega);have hgd:s.getD i 0=c:=by rw [List.getD_eq_getElem?_getD,hq];rfl
   have hst:=zsi hq (by omega);refine' zc (zB hcmp hgd natC);exact ⟨⟨i+1,by omega⟩,by simp only [AS.le,leT,leH,zf,AsgK,AV.le,AV.leL,AObj.le,inH,idsT,idsH,AV.ids,AV.idsL,AV.idsR,AObj.ids,lk,hget,go_sem,aeq,aeq.aeqF,simprocAttr,hwi,hst],by simp;omega⟩
  ·have hcmp:decide ((i:Int)<(z:Int))=false:=decide_eq_false (by omega);refine' zc (zn hcmp natC);have:i=z:=by omega
   subst this;simp only [takeS,if_neg h,if_neg hc,Int.toNat_natCast]
@[go_sem] noncomputable def zV:Ent Tryz.prog 68:= .m2 strT (intT .i64) zsk
theorem zgG (c:UInt8):(decide ((c.toNat:Int)<33)||decide ((126:Int)<c.toNat))= !nameB c:=by
 rw [nameB,Bool.not_and];congr 1
 ·by_cases h:c.toNat<33
  ·rw [decide_eq_true (p:=(c.toNat:Int)<33) (by omega),decide_eq_false (by omega)];rfl
  ·rw [decide_eq_false (p:=(c.toNat:Int)<33) (by omega),decide_eq_true (by omega)];rfl
 ·by_cases h:126<c.toNat
  ·rw [decide_eq_true (p:=(126:Int)<c.toNat) (by omega),decide_eq_false (by omega)];rfl
  ·rw [decide_eq_false (p:=(126:Int)<c.toNat) (by omega),decide_eq_true (by omega)];rfl
theorem zsl (n k:Nat):decide ((n:Int)<=k)=decide (n<=k):=by
 by_cases h:n<=k
 ·rw [decide_eq_true h,decide_eq_true (by omega)]
 ·rw [decide_eq_false h,decide_eq_false (by omega)]
theorem zqo (s:Txt) (hs:s.length<=9223372036854775807):ACall Tryz.prog 47 0 [.d (.str s)] [] (λr _=>r= .d (.bool (zaq s))):=by
 refine bod Tryz.func47 Tryz.ntmps47 (λbase=>?_);refine' zc fx;refine zq (λq: { i:Nat // i<=s.length/\s.all nameB=(s.drop i).all nameB } =>⟨[(0,true,.d (.str s)),(3,true,.d (.int .i64 q.1))],[],some []⟩) (λq=>s.length - q.1) ⟨0,Nat.zero_le _,rfl⟩ le1 (λq=>?_);obtain ⟨i,hi,hf⟩:=q;simp only at hi hf ⊢;rcases Nat.lt_or_ge i s.length with hlt|hge
 ·have hcmp:decide ((i:Int)<(s.length:Int))=true:=decide_eq_true (by omega);have hwi:=zr (i:=i) (by omega);obtain ⟨c,hq⟩:=zas (l:=s) (i:=i) (by omega);have hgd:s.getD i 0=c:=by rw [List.getD_eq_getElem?_getD,hq];rfl
  rw [zcQ hq,List.all_cons] at hf;refine' zc (zB hcmp hgd natC)
  ·rw [zgG] at hc;have hc:nameB c=false:=by simpa using hc
   rw [zaq,hf,hc];rfl
  ·rw [zgG] at hc;have hc:nameB c=true:=by simpa using hc
   rw [hc,Bool.true_and] at hf;exact ⟨⟨i+1,by omega,hf⟩,lew,by simp;omega⟩
 ·have hcmp:decide ((i:Int)<(s.length:Int))=false:=decide_eq_false (by omega);refine' zc (zn hcmp natC);rw [zaq,hf,List.drop_of_length_le (by omega),show (8:Int)=((8:Nat):Int) from rfl,zsl];rfl
@[go_sem] noncomputable def zS:Ent Tryz.prog 47:= .ofL (consL strT nilL) (λ(s,_)=>s.length<=9223372036854775807) (λ(s,_)=> .d (.bool (zaq s))) (λ(s,_) hp=>⟨rfl,zqo s hp⟩)
open Go Go.Proofs
theorem zsm (n:Int) (h0:0<=n) (h1:n<=140737488355328):ACall Tryz.prog 91 0 [.d (.str [0]),.d (.int .i64 n)] [] (λr _=>r= .d (.str (List.replicate n.toNat 0))):=by
 obtain ⟨m,rfl⟩:∃m:Nat,n=m:=⟨n.toNat,by omega⟩
 exact zuA m (by omega)
@[go_sem] noncomputable def zaj:Ent Tryz.prog 91:= .ofL (consL (zew (.d (.str [0]))) (consL (intT .i64) nilL)) (λ(_,n,_)=>(0<=n)/\(n<=140737488355328)) (λ(_,n,_)=> .d (.str (List.replicate n.toNat 0))) (λ(_,n,_) hp=>⟨rfl,zsm n hp.1 hp.2⟩)
theorem zyj (s:Txt) (n:Int) (hs:s.length<=9223372036854775807):AC 185 [.d (.str s),.d (.int .i64 n)] (.tup [.d (.str (padS s n).1),.d (.int .i64 (padS s n).2)]):=by
 refine bod Tryz.func185 Tryz.ntmps185 (λbase=>?_);by_cases h:n<s.length\/65536<n
 ·have hdec:(decide (n<(s.length:Int))||decide (65536<n))=true:=by simpa using h
  refine' zc hdec;rw [padS,if_pos h]
 ·have hdec:(decide (n<(s.length:Int))||decide (65536<n))=false:=by simpa using h
  have hm:IntKind.i64.wrap (n - s.length)=n - s.length:=zg (by omega) (by omega);refine' walkW (zn hdec hm) (za zaj <| zb _)
  ·rw [List.length_replicate];omega
  ·simp only [padS,if_neg h]
@[go_sem] noncomputable def zgH:Ent Tryz.prog 185:= .m2 strT (intT .i64) zyj
theorem zwR (s:Txt) (at_:Int) (t:Txt) (hp:s.length<=9223372036854775807/\t.length<=9223372036854775807):AC 158 [.d (.str s),.d (.int .i64 at_),.d (.str t)] (.tup [.d (.str (overS s at_ t).1),.d (.int .i64 (overS s at_ t).2)]):=by
 obtain ⟨hs,ht⟩:=hp;refine bod Tryz.func158 Tryz.ntmps158 (λbase=>?_);have hm:IntKind.i64.wrap ((s.length:Int) - t.length)=(s.length:Int) - t.length:=zg (by omega) (by omega);by_cases h:at_<0\/(s.length:Int) - t.length<at_
 ·have hdec:(decide (at_<0)||decide ((s.length:Int) - t.length<at_))=true:=by simpa using h
  refine' zc (zn hm hdec);rw [overS,if_pos h]
 ·have hdec:(decide (at_<0)||decide ((s.length:Int) - t.length<at_))=false:=by simpa using h
  have hm2:IntKind.i64.wrap (at_+t.length)=at_+t.length:=zg (by omega) (by omega);refine' zc (zB hm hdec hm2)
  ·rw [List.length_take];omega
  ·simp;omega
  ·simp only [overS,if_neg h]
@[go_sem] noncomputable def zaa:Ent Tryz.prog 158:= .m3 strT (intT .i64) strT zwR
theorem zyk (k s:Nat) (hs:s<=64) (h:k*2 ^ s<18446744073709551616):ishl .u64 (k:Int) (s:Int)=((k*2 ^ s:Nat):Int):=by
 unfold ishl;rw [show min ((s:Int).toNat) IntKind.u64.bits=s by show min ((s:Int).toNat) 64=s;omega,IntKind.wrap_u64];have:(k:Int)*2 ^ s=((k*2 ^ s:Nat):Int):=by norm_cast
 rw [this];omega
theorem zqp (a b:Nat) (ha:a<18446744073709551616) (hb:b<18446744073709551616):ibits .or .u64 (a:Int) (b:Int)=((a ||| b:Nat):Int):=by have hab:a ||| b<18446744073709551616:=Nat.or_lt_two_pow (n:=64) ha hb;unfold ibits;simp only [show IntKind.u64.bits=64 from rfl,BitVec.ofInt_natCast,BitVec.toNat_or,BitVec.toNat_ofNat];rw [Nat.mod_eq_of_lt (by omega),Nat.mod_eq_of_lt (by omega),IntKind.wrap_u64];omega
theorem zqq {l:Txt} {i:Nat} {c:UInt8} (hq:l[i]?=some c) (hi:i<8):ibits .or .u64 (ishl .u64 ((takeN (l.take i):Nat):Int) 8) (IntKind.u64.wrap (c.toNat:Int))=((takeN (l.take (i+1)):Nat):Int):=by have h1:takeN (l.take i)<256 ^ 7:=zcg (by rw [List.length_take];omega);have h2:=c.toNat_lt;rw [zad (x:=(c.toNat:Int)) (by omega) (by omega),show (8:Int)=((8:Nat):Int) from rfl,zyk _ _ (by omega) (by omega),zqp _ _ (by omega) (by omega),zb7 hq,zhh,<-Nat.shiftLeft_eq,<-Nat.shiftLeft_add_eq_or_of_lt (i:=8) (by omega),Nat.shiftLeft_eq]
theorem zwS (s:Txt) (size:Int) (hs:s.length<=9223372036854775807):AC 202 [.d (.str s),.d (.int .i64 size)] (.tup [.d (.int .u64 (takeS s size).1),.d (.str (takeS s size).2.1),.d (.int .i64 (takeS s size).2.2)]):=by
 refine fbod Tryz.func202 Tryz.ntmps202 (λbase=>?_);by_cases h:size<1\/8<size
 ·have hdec:(decide (size<1)||decide (8<size))=true:=by simpa using h
  refine' zc hdec;rw [takeS,if_pos h]
 ·have hdec:(decide (size<1)||decide (8<size))=false:=by simpa using h
  obtain ⟨z,rfl,hz8⟩:∃z:Nat,size=(z:Int)/\z<=8:=⟨size.toNat,by omega,by omega⟩
  refine' zc (zn hdec natC)
  ·have hc:(s.length:Int)<z:=by simpa using hc
   simp only [takeS,if_neg h,if_pos hc]
  ·have hc:¬(s.length:Int)<z:=by simpa using hc
   omega
  ·rw [zcp]
  have hc:¬(s.length:Int)<z:=by simpa using hc
  have hlz:(s.take z).length=z:=by rw [List.length_take];omega
  simp only [hlz];refine zq (λq: { i:Nat // i<=z } =>⟨[(0,true,.d (.str s)),(1,true,.d (.int .i64 z)),(7,true,.d (.int .u64 (takeN (s.take q.1)))),(25,true,.osl 0 1 z 0 z),(26,true,.d (.int .i64 z)),(27,true,.d (.int .i64 q.1))],[(0,.arr 1 (zj (s.take z)))],some []⟩) (λq=>z - q.1) ⟨0,Nat.zero_le _⟩ le1 (λq=>?_);obtain ⟨i,hi⟩:=q;simp only at hi ⊢;rcases Nat.lt_or_ge i z with hlt|hge
  ·have hcmp:decide ((i:Int)<(z:Int))=true:=decide_eq_true (by omega);have hwi:=zr (i:=i) (by omega);obtain ⟨c,hq⟩:=zas (l:=s) (i:=i) (by omega)
   have hgd:(zj (s.take z)).getD i []= [.int .u8 c.toNat]:=by rw [zhN (by rw [hlz];omega),List.getD_eq_getElem?_getD,List.getElem?_take,if_pos hlt,hq];rfl
   have hst:=zqq hq (by omega);have hb0:(zj (s.take z)).length=z:=by rw [zcp,hlz]
   refine' zc (zah hcmp hgd hb0 natC);exact ⟨⟨i+1,by omega⟩,by simp only [AS.le,leT,leH,zf,AsgK,AV.le,AV.leL,AObj.le,inH,idsT,idsH,AV.ids,AV.idsL,AV.idsR,AObj.ids,lk,hget,go_sem,aeq,aeq.aeqF,simprocAttr,hwi,hst],by simp;omega⟩
  ·have hcmp:decide ((i:Int)<(z:Int))=false:=decide_eq_false (by omega);refine' zc (zn hcmp natC);have:i=z:=by omega
   subst this;simp only [takeS,if_neg h,if_neg hc,Int.toNat_natCast]
@[go_sem] noncomputable def zcc:Ent Tryz.prog 202:= .m2 strT (intT .i64) zwS
open Go Go.Proofs
theorem zsn (c:Int) (_:True):AC 233 [.d (.int .i32 c)] (.d (.bool (decide (c<33)||decide (126<c)))):=by refine bod Tryz.func233 Tryz.ntmps233 (λbase=>?_);refine' zc fx
@[go_sem] noncomputable def zgm:Ent Tryz.prog 233:= .m1 (intT .i32) zsn
theorem zuM {s:Txt} {i:Nat} {c:UInt8} (hq:s[i]?=some c) (h:c.toNat<128):Utf8.decode ⟨s.toArray⟩ i=((c.toNat:Nat),1):=by obtain ⟨hi,hc⟩:=List.getElem?_eq_some_iff.1 hq;have:=decode_ascii ⟨s.toArray⟩ i (by simpa [ByteArray.size] using hi) (by show ((s.toArray)[i]).toNat<128;simpa [hc] using h);rw [this];show (((s.toArray)[i]).toNat,1)=_;simp [hc]
theorem zso {s:Txt} {i:Nat} {c:UInt8} (hq:s[i]?=some c) (h:128<=c.toNat):128<=(Utf8.decode ⟨s.toArray⟩ i).1:=by obtain ⟨hi,hc⟩:=List.getElem?_eq_some_iff.1 hq;exact (decode_high ⟨s.toArray⟩ i (by simpa [ByteArray.size] using hi) (by show 128<=((s.toArray)[i]).toNat;simpa [hc] using h)).1
theorem zqr (s:Txt) (hs:s.length<=9223372036854775807):ACall Tryz.prog 272 0 [.d (.str s),.fn (.func 233) [] [],.d (.bool true)] [] (λr _=>r= .d (.int .i64 (idxP (λc=> !nameB c) s 0))):=by
 refine bod Tryz.func272 Tryz.ntmps272 (λbase=>?_);refine' walkW fx (za zgm <| zb _);refine zq (λq:Idst (λc=> !nameB c) s=>⟨[(1,true,.fn (.func 233) [] []),(2,true,.d (.bool true)),(10,true,.itr 0)],[(0,.strit s q.1)],some []⟩) (λq=>s.length - q.1) ⟨0,Nat.zero_le _,rfl⟩ le0 (λq=>?_);obtain ⟨i,hi,hf⟩:=q;simp only at hi hf ⊢;rcases Nat.lt_or_ge i s.length with hlt|hge
 ·obtain ⟨c,hq⟩:=zas (l:=s) (i:=i) (by omega);rw [zcQ hq,idxP] at hf;have h1:(i<s.length)=True:=eq_true hlt;rcases Nat.lt_or_ge c.toNat 128 with hlow|hhigh
  ·have hr:=zuM hq hlow;refine' walkW (zB h1 @if_true.{1} hr) (za zgm <| zb _)
   ·rw [zgG] at hc;rw [hf,if_pos hc]
   ·rw [zgG] at hc;rw [if_neg (by rw [hc];exact Bool.false_ne_true)] at hf;exact ⟨⟨i+1,by omega,hf⟩,by simp only [AS.le,leT,leH,zf,AsgK,AV.le,AV.leL,AObj.le,inH,idsT,idsH,AV.ids,AV.idsL,AV.idsR,AObj.ids,lk,hget,go_sem,aeq,aeq.aeqF,simprocAttr],by simp;omega⟩
  ·have hr:=zso hq hhigh;have hnb:(!nameB c)=true:=by rw [nameB,decide_eq_false (p:=c.toNat<=126) (by omega),Bool.and_false];rfl
   refine' walkW (zn h1 @if_true.{1}) (za zgm <| zb _)
   ·rw [hf,if_pos hnb]
   ·rw [decide_eq_true (p:=(126:Int)<((Utf8.decode ⟨s.toArray⟩ i).1:Nat)) (by omega),Bool.or_true] at hc;cases hc
 ·have h1:(i<s.length)=False:=eq_false (by omega);refine' zc (zn h1 @if_false.{1});rw [hf,List.drop_of_length_le (by omega)];rfl
@[go_sem] noncomputable def zms:Ent Tryz.prog 272:= .ofL (consL strT (consL (fnT 233 nilL) (consL (zew (.d (.bool true))) nilL))) (λ(s,_,_,_)=>s.length<=9223372036854775807) (λ(s,_,_,_)=> .d (.int .i64 (idxP (λc=> !nameB c) s 0))) (λ(s,_,_,_) hp=>⟨rfl,zqr s hp⟩)
theorem zmt (s:Txt) (hs:s.length<=9223372036854775807):ACall Tryz.prog 232 0 [.d (.str s),.fn (.func 233) [] []] [] (λr _=>r= .d (.int .i64 (idxP (λc=> !nameB c) s 0))):=by refine bod Tryz.func232 Tryz.ntmps232 (λbase=>?_);refine' walkW fx (za zms <| zb _)
@[go_sem] noncomputable def zjK:Ent Tryz.prog 232:= .ofL (consL strT (consL (fnT 233 nilL) nilL)) (λ(s,_,_)=>s.length<=9223372036854775807) (λ(s,_,_)=> .d (.int .i64 (idxP (λc=> !nameB c) s 0))) (λ(s,_,_) hp=>⟨rfl,zmt s hp⟩)
theorem zwT (s:Txt) (k:Nat):decide (idxP (λc=> !nameB c) s k<0)=s.all nameB:=by
 have h:=zhg (λc=> !nameB c) s k;rw [List.all_eq_not_any_not,<-h];by_cases h0:idxP (λc=> !nameB c) s k<0
 ·rw [decide_eq_true h0,decide_eq_false (by omega)];rfl
 ·rw [decide_eq_false h0,decide_eq_true (by omega)];rfl
theorem zuN (s:Txt) (hs:s.length<=9223372036854775807):AC 184 [.d (.str s)] (.d (.bool (zaq s))):=by refine bod Tryz.func184 Tryz.ntmps184 (λbase=>?_);refine' walkW fx (za zjK <| zb _);rw [zaq,zwT,show (8:Int)=((8:Nat):Int) from rfl,zsl,Bool.and_comm]
@[go_sem] noncomputable def zfK:Ent Tryz.prog 184:= .m1 strT zuN
def nameS (s:Txt):Txt×Int:=if zaq s then padS s 8 else ([],19)
theorem zwU (s:Txt) (hs:s.length<=9223372036854775807):AC 115 [.d (.str s)] (.tup [.d (.str (nameS s).1),.d (.int .i64 (nameS s).2)]):=by refine bod Tryz.func115 Tryz.ntmps115 (λbase=>?_);refine' walkW fx (za zfK <| za zgH <| zb _);all_goals simp_all [nameS]
@[go_sem] noncomputable def ziI:Ent Tryz.prog 115:= .m1 strT zwU
end Go.Aw
