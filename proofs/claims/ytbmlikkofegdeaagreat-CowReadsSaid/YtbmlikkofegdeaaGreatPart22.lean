/-
  Parts of the proof: DevF, Num, PackA, PackB, PackC, PackD (short names; the readable texts lie in the repo, under wip).
-/
import Derived.Test.YtbmlikkofegdeaaGreatPart21
import Derived.Test.YtbmlikkofegdeaaGreatPart17
import Derived.Laws.RangeString
import Derived.Laws.RangeAny
import Derived.Test.YtbmlikkofegdeaaGreatPart18
set_option maxRecDepth 100000
set_option maxHeartbeats 2000000
set_option linter.unusedSimpArgs false
set_option linter.unusedVariables false
namespace Go.Aw
open Go Go.Proofs
theorem zmk (rows:List (List D)):ACall Tryz.prog 123 0 [.d (.sl 2 rows)] [] (fun r _=>r= .fn (.func 162) [] [.dp [.d (.sl 2 rows)]]):=by
 refine fbod Tryz.func123 Tryz.ntmps123 (fun base=>?_)
 refine' zf fx
noncomputable def zfA:Ent Tryz.prog 123:=Ent.of 123 (fun x:(List (List D))=>(fun (rows:List (List D))=>([.d (.sl 2 rows)]:List AV)) x) (fun x:(List (List D))=>(fun (rows:List (List D))=>(True:Prop)) x) (fun x:(List (List D))=>(fun (rows:List (List D))=>(.fn (.func 162) [] [.dp [.d (.sl 2 rows)]]:AV)) x) (fun x hp=>⟨rfl,zmk x⟩)
theorem zjc:∀x y:(List (List D)),(fun x:(List (List D))=>(fun (rows:List (List D))=>([.d (.sl 2 rows)]:List AV)) x) x=(fun x:(List (List D))=>(fun (rows:List (List D))=>([.d (.sl 2 rows)]:List AV)) x) y→x=y:=by
 intro x y h
 skip
 simpa only [List.cons.injEq,AV.d.injEq,AV.agg.injEq,AV.dp.injEq,AV.fn.injEq,AV.tup.injEq,AV.asl.injEq,Int.natCast_inj,D.int.injEq,D.str.injEq,D.bool.injEq,D.sl.injEq,Prod.mk.injEq,and_true,true_and,and_assoc] using h
@[go_sem] theorem zpG (rows:List (List D)):(zfA).e [.d (.sl 2 rows)]=some (True,.fn (.func 162) [] [.dp [.d (.sl 2 rows)]]):=Ent.of_app zjc (rows)
theorem zrv (d:Disk) (_:True):AC 79 [diskA d] (.fn (.func 122) [] [.dp (diskC d)]):=by
 refine fbod Tryz.func79 Tryz.ntmps79 (fun base=>?_)
 refine' zf fx
@[go_sem] noncomputable def zjd:Ent Tryz.prog 79:= .m1 zv zrv
def putAV (q:PutR):AV:= .agg [.d (.int .i64 q.1),.d (.str q.2)]
def backs:List PutR→List (Nat×PutR)
 | []=> []
 |q::r=>(r.length,q)::backs r
def zaM (x:Nat×PutR):List AV:= [.d (.int .i64 x.1),putAV x.2]
abbrev Bst (l:List PutR):= { q:Nat×List (List AV) // q.1≤l.length∧q.2++(backs (l.take q.1).reverse).map zaM=(backs l.reverse).map zaM }
theorem zko (l:List PutR) (hl:l.length≤9223372036854775807) (fl:Nat):AIter Tryz.prog 162 fl [] [.dp [.d (.sl 2 (l.map putD))]] [] ((backs l.reverse).map zaM) (fun g h'=>(∀xs,g=some xs→xs=(backs l.reverse).map zaM)∧h'= []):=by
 refine itr Tryz.func162 Tryz.ntmps162 (fun base y=>?_)
 refine' zay fx
 have hw0:IntKind.i64.wrap ((l.length:Int) - 1)=(l.length:Int) - 1:=zi (by omega) (by omega)
 refine zC (fun q:Bst l=>⟨[(0,true,.fn (.yield y.yl) [] []),(1,true,.dp [.d (.sl 2 (l.map putD))]),(3,true,.d (.int .i64 ((q.1.1:Int) - 1)))],[],some q.1.2⟩) (fun q=>q.1.1) ⟨(l.length,[]),Nat.le_refl _,by rw [zfO];rfl⟩ (by simp only [AS.le,leT,leH,zh,AsgK,AV.le,AV.leL,AObj.le,inH,idsT,idsH,AV.ids,AV.idsL,AV.idsR,AObj.ids,lk,hget,go_sem,aeq,aeq.aeqF,simprocAttr,hw0]) (fun q=>?_)
 obtain ⟨⟨i,xs⟩,hi,hf⟩:=q
 simp only at hi hf ⊢
 cases i with
 |zero=>
  have hz:decide ((0:Int)≤((0:Nat):Int) - 1)=false:=by decide
  refine' zay hz
  rintro zs rfl
  rw [← hf];simp [backs]
 |succ i=>
  have hz:decide ((0:Int)≤((i+1:Nat):Int) - 1)=true:=decide_eq_true (by omega)
  have hi1:(((i+1:Nat):Int) - 1)=(i:Int):=by omega
  have hwi:IntKind.i64.wrap ((i:Int) - 1)=(i:Int) - 1:=zi (by omega) (by omega)
  obtain ⟨⟨n,s⟩,hq⟩:=zaP (l:=l) (i:=i) (by omega)
  have hrow:=zcD (g:=putD) hq
  simp only [putD] at hrow
  have hil:(l.take i).length=i:=by rw [List.length_take];omega
  rw [zdI hq,List.reverse_append,List.reverse_singleton,List.singleton_append,backs,List.length_reverse,hil] at hf
  have hp:(xs++ [zaM (i,n,s)])<+:(backs l.reverse).map zaM:=by rw [← hf];simp
  simp only [zaM,putAV] at hp
  refine' zay (za4 hz hi1 hrow natC)
  exact ⟨⟨(i,xs++ [zaM (i,n,s)]),by omega,by rw [← hf];simp⟩,by simp only [AS.le,leT,leH,zh,AsgK,AV.le,AV.leL,AObj.le,inH,idsT,idsH,AV.ids,AV.idsL,AV.idsR,AObj.ids,lk,hget,go_sem,aeq,aeq.aeqF,simprocAttr,hwi,zaM,putAV],by simp⟩
def zcr (q:PutR):List AV:= [putAV q]
theorem zje:∀l:List PutR,(backs l).map (fun x=>x.2)=l
 | []=>rfl
 |q::l=>by rw [backs,List.map_cons,zje l]
theorem zlw (l:List PutR):((backs l).map zaM).map (fun x=>x.drop 1)=l.map zcr:=by
 have:(backs l).map zaM=(backs l).map (fun x=> .d (.int .i64 x.1)::zcr x.2):=rfl
 rw [this,List.map_map]
 have h2:(fun x:List AV=>x.drop 1) ∘ (fun x:Nat×PutR=>AV.d (.int .i64 x.1)::zcr x.2)=zcr ∘ (fun x=>x.2):=rfl
 rw [h2,← List.map_map,zje]
theorem zpH {l:List PutR} {xs:List (List AV)} {x:Nat×PutR} (h:(xs++ [zaM x])<+:(backs l).map zaM):(xs.map (fun x=>x.drop 1)++ [zcr x.2])<+:l.map zcr:=by
 have:=h.map (fun x=>x.drop 1)
 rw [zlw,List.map_append] at this
 exact this
theorem zkp (d:Disk) (hd:DiskOk d):AIter Tryz.prog 122 100 [] [.dp (diskC d)] [] (d.cache.reverse.map zcr) (fun g h'=>(∀xs,g=some xs→xs=d.cache.reverse.map zcr)∧h'= []):=by
 refine itr Tryz.func122 Tryz.ntmps122 (fun base y=>?_)
 refine zgq ?_
 refine' walkX fx (za zfA <| zb _)
 obtain ⟨I,hI⟩:∃I:List (List AV)→AHeap×Option (List (List AV)),I=fun xs=>([(100,.var [.fn (.yield y.yl) [] []])],some (xs.map (fun x=>x.drop 1))):=⟨_,rfl⟩
 obtain ⟨G,hG⟩:∃G:List (List AV)→Prop,G=fun _=>True:=⟨_,rfl⟩
 obtain ⟨J,hJ⟩:∃J:Code→AHeap→Option (List (List AV))→Prop,J=fun c h g=>c= .ret∧h= [(100,.var [.fn (.yield y.yl) [] []])]∧g=none:=⟨_,rfl⟩
 refine za9 200 G I J (zko d.cache hd.cache 200) (by simp only [go_sem,aeq,aeq.aeqF,simprocAttr]) rfl (zM rfl) (by simp [cxOf,cxY]) rfl (by rw [hG];first|trivial|rfl|simp) (by rw [hI];simp only [AS.le,leT,leH,zh,AsgK,AV.le,AV.leL,AObj.le,inH,idsT,idsH,AV.ids,AV.idsL,AV.idsR,AObj.ids,lk,hget,go_sem,aeq,aeq.aeqF,simprocAttr]<;>simp [AV.leL,AV.le]) (by rw [hI];simp only [AS.le,leT,leH,zh,AsgK,AV.le,AV.leL,AObj.le,inH,idsT,idsH,AV.ids,AV.idsL,AV.idsR,AObj.ids,lk,hget,go_sem,aeq,aeq.aeqF,simprocAttr]<;>simp) (by rw [hI]<;>rfl) (by intro x hx;obtain ⟨q,_,rfl⟩:=List.mem_map.1 hx;rfl) (by intro t ht;simp at ht;first|(rcases ht with rfl|rfl<;>simp [cxOf,cxY]<;>done)|(subst ht;simp [cxOf,cxY])) ?_ ?_ ?_
 ·intro xs x hpre hgd l1 r1
  obtain ⟨⟨i,n,s⟩,hq,rfl⟩:=List.mem_map.1 (hpre.subset (List.mem_append_right _ (List.mem_singleton.2 rfl)))
  have hp:=zpH hpre
  simp only [zaM,putAV,zcr] at hp ⊢
  refine aw_le ⟨[(9,true,.agg [.d (.int .i64 n),.d (.str s)]),(2,true,.vp 100 0)],[(100,.var [.fn (.yield y.yl) [] []])],some (xs.map (fun x=>x.drop 1))⟩ (by rw [hI];simp only [AS.le,leT,leH,zh,AsgK,AV.le,AV.leL,AObj.le,inH,idsT,idsH,AV.ids,AV.idsL,AV.idsR,AObj.ids,lk,hget,go_sem,aeq,aeq.aeqF,simprocAttr]) ?_
  refine' zay hI
  ·rw [hG];trivial
  ·simp
  ·rw [hJ];exact ⟨rfl,rfl,rfl⟩
 ·intro _
  rw [hI]
  simp only [go_sem,aeq,aeq.aeqF,simprocAttr]
  rintro zs rfl
  exact zlw _
 ·rw [hJ]
  rintro c h3 g3 ⟨rfl,rfl,rfl⟩
  refine' zay fx
def hitI (at_:Int):List AV→Bool
 | [.agg [.d (.int .i64 n),_]]=>n==at_
 |_=>false
theorem zir (at_:Int):∀l:List PutR,(l.map zcr).any (hitI at_)=l.any (isPut at_)
 | []=>rfl
 |q::l=>by rw [List.map_cons,List.any_cons,List.any_cons,zir at_ l];rfl
theorem zml (d:Disk) (at_:Int) (hd:DiskOk d):AC 28 [diskA d,.d (.int .i64 at_)] (.tup [.d (.str (dread d at_).1),.d (.int .i64 (dread d at_).2)]):=by
 refine bod Tryz.func28 Tryz.ntmps28 (fun base=>?_)
 have hbl:=hd.bad
 have hdl:=hd.data
 refine' znJ (zbS 7) fx (za ziq <| za zb1 <| za zjd <| zb _)
 all_goals first|(simp_all [dread];done)|skip
 have ht:there d at_=true:=by simp_all
 obtain ⟨ht0,ht1⟩:=there_iff.mp ht
 have hm:IntKind.i64.wrap (at_*64)=at_*64:=zi (by omega) (by omega)
 have hr:dread d at_=(sees d at_,0):=by simp_all [dread]
 refine' walkR hm (za ziq <| za zb1 <| za zjd <| zb _)
 ·rw [List.length_drop];omega
 obtain ⟨S0,hS0⟩:∃S0,S0=(d.data.drop (at_*64).toNat).take 64:=⟨_,rfl⟩
 rw [← hS0]
 obtain ⟨I,hI⟩:∃I:List (List AV)→AHeap×Option (List (List AV)),I=fun xs=>([(2,.var [.d (.str S0)]),(1,.var [.d (.int .i64 at_)]),(0,(.var [.d (.str d.data),.d (.sl 2 (d.cache.map putD)),.d (.int .i64 d.fuse),.d (.bool d.off),.d (.sl 1 (d.bad.map intD))]))],some []):=⟨_,rfl⟩
 obtain ⟨G,hG⟩:∃G:List (List AV)→Prop,G=fun xs=>xs.any (hitI at_)=false:=⟨_,rfl⟩
 obtain ⟨J,hJ⟩:∃J:Code→AHeap→Option (List (List AV))→Prop,J=fun c h g=>c= .exit 1∧g=some []∧∃q,d.cache.reverse.find? (isPut at_)=some q∧h= [(100,.var [.d (.int .i64 q.1),.d (.str q.2)]),(2,.var [.d (.str q.2)]),(1,.var [.d (.int .i64 at_)]),(0,(.var [.d (.str d.data),.d (.sl 2 (d.cache.map putD)),.d (.int .i64 d.fuse),.d (.bool d.off),.d (.sl 1 (d.bad.map intD))]))]:=⟨_,rfl⟩
 refine za9 100 G I J (zkp d hd) (by simp only [go_sem,aeq,aeq.aeqF,simprocAttr]) rfl (zM rfl) (by simp [cxOf,cxY]) rfl (by rw [hG];first|trivial|rfl|simp) (by rw [hI];simp only [AS.le,leT,leH,zh,AsgK,AV.le,AV.leL,AObj.le,inH,idsT,idsH,AV.ids,AV.idsL,AV.idsR,AObj.ids,lk,hget,go_sem,aeq,aeq.aeqF,simprocAttr]<;>simp [AV.leL,AV.le]) (by rw [hI];simp only [AS.le,leT,leH,zh,AsgK,AV.le,AV.leL,AObj.le,inH,idsT,idsH,AV.ids,AV.idsL,AV.idsR,AObj.ids,lk,hget,go_sem,aeq,aeq.aeqF,simprocAttr]<;>simp) (by rw [hI]<;>rfl) (by intro x hx;obtain ⟨q,_,rfl⟩:=List.mem_map.1 hx;rfl) (by intro t ht;simp at ht;first|(rcases ht with rfl|rfl<;>simp [cxOf,cxY]<;>done)|(subst ht;simp [cxOf,cxY])) ?_ ?_ ?_
 ·intro xs x hpre hgd l1 r1
  obtain ⟨ys,⟨n,s⟩,zs,rfl,rfl,hl⟩:=zdi hpre
  rw [hG,zir] at hgd
  simp only [zcr,putAV]
  refine aw_le ⟨[(28,true,.agg [.d (.int .i64 n),.d (.str s)]),(3,true,.vp 1 0),(6,true,.vp 2 0)],[(2,.var [.d (.str S0)]),(1,.var [.d (.int .i64 at_)]),(0,(.var [.d (.str d.data),.d (.sl 2 (d.cache.map putD)),.d (.int .i64 d.fuse),.d (.bool d.off),.d (.sl 1 (d.bad.map intD))]))],some []⟩ (by rw [hI];simp only [AS.le,leT,leH,zh,AsgK,AV.le,AV.leL,AObj.le,inH,idsT,idsH,AV.ids,AV.idsL,AV.idsR,AObj.ids,lk,hget,go_sem,aeq,aeq.aeqF,simprocAttr]) ?_
  refine' zdL hI
  ·rw [hJ]
   exact ⟨rfl,rfl,(n,s),by rw [hl];exact zmj hgd hc,rfl⟩
  ·rw [hG]
   show List.any (_++_) _=false
   rw [List.any_append,zir,hgd]
   simpa [hitI] using hc
 ·intro hgd
  rw [hG,zir] at hgd
  rw [hI]
  refine' zdL fx
  rw [hr,sees,List.find?_eq_none.2 (fun x hx=>by simpa using List.any_eq_false.1 hgd x hx),hS0]
 ·rw [hJ]
  rintro c h3 g3 ⟨rfl,rfl,⟨n,s⟩,hq,rfl⟩
  refine' zdL fx
  rw [hr,sees,hq]
@[go_sem] noncomputable def zp:Ent Tryz.prog 28:= .m2 zv (intT .i64) zml
open Go Go.Proofs
def putN (n:Nat):Nat→Txt
 |0=> []
 |k+1=>putN (n / 256) k++ [UInt8.ofNat n]
def takeN (l:Txt):Nat:=l.foldl (fun n c=>n*256+c.toNat) 0
theorem zjf (l:Txt) (i:Nat) (b:UInt8):(zg l).set i (zdE b)=zg (l.set i b):=by
 simp [zg,List.map_set]
theorem zbj (l:Txt):(zg l).length=l.length:=by simp [zg]
theorem zfB {b:Txt} {k:Nat} (hk:k<b.length):(zg b).getD k []= [.int .u8 (b.getD k 0).toNat]:=by
 simp [zg,List.getD_eq_getElem?_getD,hk,zdE]
theorem zjg {b:Txt} {k:Nat} {x:Int} (hk:k<b.length) (c:UInt8) (hx:x=c.toNat):(zg b).set k (((zg b).getD k []).set 0 (D.int .u8 x))=zg (b.set k c):=by
 rw [zfB hk,List.set_cons_zero,hx]
 exact zjf b k c
theorem zpI {b:Txt} {k:Nat} (hk:k<b.length) (c:UInt8):(b.set k c).drop k=c::b.drop (k+1):=by
 rw [List.drop_set,if_neg (by omega),Nat.sub_self,List.drop_eq_getElem_cons hk,List.set_cons_zero]
theorem zZ (n k:Nat):(putN n k).length=k:=by
 induction k generalizing n with
 |zero=>rfl
 |succ k ih=>rw [putN,List.length_append,ih];rfl
theorem zgr (n i:Nat):putN n (i+1)=UInt8.ofNat (n / 256 ^ i)::putN n i:=by
 induction i generalizing n with
 |zero=>simp [putN]
 |succ i ih=>
  rw [putN,ih,putN,List.cons_append,Nat.div_div_eq_div_mul,Nat.pow_succ,Nat.mul_comm 256]
theorem zq5 (n k:Nat) (hk:k≤64):ishr .u64 (n:Int) (k:Int)=((n / 2 ^ k:Nat):Int):=by
 unfold ishr
 rw [show min ((k:Int).toNat) IntKind.u64.bits=k by show min ((k:Int).toNat) 64=k;omega]
 rw [Int.fdiv_eq_ediv_of_nonneg _ (Int.le_of_lt (Int.pow_pos (by decide)))]
 norm_cast
theorem u8_of (n:Nat):IntKind.u8.wrap (n:Int)=((UInt8.ofNat n).toNat:Int):=by
 rw [IntKind.wrap_u8]
 simp
theorem zpJ {n:Int} (h0:0≤n) {i:Nat} (hi:i≤8):IntKind.u8.wrap (ishr .u64 n ((8*i:Nat):Int))=((UInt8.ofNat (n.toNat / 256 ^ i)).toNat:Int):=by
 obtain ⟨m,rfl⟩:∃m:Nat,n=m:=⟨n.toNat,by omega⟩
 rw [zq5 m _ (by omega),u8_of,Int.toNat_natCast,Nat.pow_mul]
theorem ze4 (l:Txt) (c:UInt8):takeN (l++ [c])=takeN l*256+c.toNat:=by
 simp [takeN,List.foldl_append]
theorem zlx (l:Txt):takeN l<256 ^ l.length:=by
 rcases List.eq_nil_or_concat l with rfl|⟨l',c,rfl⟩
 ·decide
 ·rw [List.concat_eq_append,ze4,List.length_append,List.length_singleton,Nat.pow_succ]
  have:=zlx l'
  have:=c.toNat_lt
  have h2:takeN l'+1≤256 ^ l'.length:=by omega
  have:=Nat.mul_le_mul_right 256 h2
  omega
termination_by l.length
decreasing_by subst_vars;simp
theorem zcE {l:Txt} {i:Nat} (h:l.length≤i):takeN l<256 ^ i:=Nat.lt_of_lt_of_le (zlx l) (Nat.pow_le_pow_right (by decide) h)
theorem zat {x:Int} (h0:0≤x) (h1:x<18446744073709551616):IntKind.u64.wrap x=x:=by
 rw [IntKind.wrap_u64];omega
theorem znT {l:Txt} {i:Nat} {c:UInt8} (hq:l[i]?=some c) (hi:i<8):IntKind.u64.wrap (IntKind.u64.wrap ((takeN (l.take i):Nat)*256)+IntKind.u64.wrap (c.toNat:Int))=((takeN (l.take (i+1)):Nat):Int):=by
 have h1:takeN (l.take i)<256 ^ 7:=zcE (by rw [List.length_take];omega)
 have h2:=c.toNat_lt
 rw [zat (x:=(takeN (l.take i):Nat)*256) (by omega) (by omega),zat (x:=(c.toNat:Int)) (by omega) (by omega),zat (by omega) (by omega),zdI hq,ze4]
 omega
open Go Go.Proofs
def padS (s:Txt) (n:Int):Txt×Int:=if n<s.length∨65536<n then ([],11) else (s++List.replicate (n - s.length).toNat 0,0)
def overS (s:Txt) (at_:Int) (t:Txt):Txt×Int:=if at_<0∨(s.length:Int) - t.length<at_ then ([],10) else (s.take at_.toNat++t++s.drop (at_+t.length).toNat,0)
def putS8 (n:Int) (size:Int):Txt:=if size<1∨8<size then [] else putN n.toNat size.toNat
def takeS (s:Txt) (size:Int):Int×Txt×Int:=if size<1∨8<size then (0,[],25) else if (s.length:Int)<size then (0,[],22) else ((takeN (s.take size.toNat):Int),s.drop size.toNat,0)
def nameB (c:UInt8):Bool:=decide (33≤c.toNat)&&decide (c.toNat≤126)
def zgs (s:Txt):Bool:=s.all nameB&&(s != []&&decide (s.length≤8))
theorem zpK (s:Txt) (n:Int) (hs:s.length≤9223372036854775807):AC 108 [.d (.str s),.d (.int .i64 n)] (.tup [.d (.str (padS s n).1),.d (.int .i64 (padS s n).2)]):=by
 refine fbod Tryz.func108 Tryz.ntmps108 (fun base=>?_)
 by_cases h:n<s.length∨65536<n
 ·have hdec:(decide (n<(s.length:Int))||decide (65536<n))=true:=by simpa using h
  refine' zf hdec
  rw [padS,if_pos h]
 ·have hdec:(decide (n<(s.length:Int))||decide (65536<n))=false:=by simpa using h
  have hm:IntKind.i64.wrap (n - s.length)=n - s.length:=zi (by omega) (by omega)
  refine' zf (zY hdec hm @zd3 @zi6 @zlv @if_true.{1})
  ·exact zbt _
  ·rw [zal,List.length_replicate];omega
  ·simp only [padS,if_neg h,zal]
@[go_sem] noncomputable def zmm:Ent Tryz.prog 108:= .m2 strT (intT .i64) zpK
theorem zly {a b c:Int} :(decide (a<0)||decide (b<c)||decide (b - c<a))=(decide (a<0)||decide (b - c<a)):=by
 by_cases h1:a<0
 ·simp [h1]
 ·by_cases h2:b<c
  ·rw [decide_eq_true h2,decide_eq_true (p:=b - c<a) (by omega)];simp
  ·rw [decide_eq_false h2];simp
theorem znU (s:Txt) (at_:Int) (t:Txt) (hp:s.length≤9223372036854775807∧t.length≤9223372036854775807):AC 21 [.d (.str s),.d (.int .i64 at_),.d (.str t)] (.tup [.d (.str (overS s at_ t).1),.d (.int .i64 (overS s at_ t).2)]):=by
 obtain ⟨hs,ht⟩:=hp
 refine bod Tryz.func21 Tryz.ntmps21 (fun base=>?_)
 have hm:IntKind.i64.wrap ((s.length:Int) - t.length)=(s.length:Int) - t.length:=zi (by omega) (by omega)
 by_cases h:at_<0∨(s.length:Int) - t.length<at_
 ·have hdec:(decide (at_<0)||decide ((s.length:Int) - t.length<at_))=true:=by simpa using h
  refine' zf (zN hm @zly hdec)
  rw [overS,if_pos h]
 ·have hdec:(decide (at_<0)||decide ((s.length:Int) - t.length<at_))=false:=by simpa using h
  have hm2:IntKind.i64.wrap (at_+t.length)=at_+t.length:=zi (by omega) (by omega)
  refine' zf (za4 hm @zly hdec hm2)
  ·rw [List.length_take];omega
  ·simp;omega
  ·simp only [overS,if_neg h]
@[go_sem] noncomputable def zaD:Ent Tryz.prog 21:= .m3 strT (intT .i64) strT znU
theorem zpL (n size:Int) (hp:0≤n∧n<18446744073709551616):AC 107 [.d (.int .u64 n),.d (.int .i64 size)] (.d (.str (putS8 n size))):=by
 obtain ⟨h0,h1⟩:=hp
 refine fbod Tryz.func107 Tryz.ntmps107 (fun base=>?_)
 by_cases h:size<1∨8<size
 ·have hdec:(decide (size<1)||decide (8<size))=true:=by simpa using h
  refine' zf hdec
  rw [putS8,if_pos h]
 ·have hdec:(decide (size<1)||decide (8<size))=false:=by simpa using h
  obtain ⟨z,rfl,hz8⟩:∃z:Nat,size=(z:Int)∧z≤8:=⟨size.toNat,by omega,by omega⟩
  refine' zf (zE hdec natC)
  refine zC (fun q: { q:Nat×Txt // q.1≤z∧q.2.length=z∧q.2.drop (z - q.1)=putN n.toNat q.1 } =>⟨[(0,true,.d (.int .u64 n)),(1,true,.d (.int .i64 z)),(5,true,.osl 0 1 z 0 z),(6,true,.d (.int .i64 q.1.1))],[(0,.arr 1 (zg q.1.2))],some []⟩) (fun q=>z - q.1.1) ⟨(0,List.replicate z 0),Nat.zero_le _,by simp,by simp [putN]⟩ (by simp only [AS.le,leT,leH,zh,AsgK,AV.le,AV.leL,AObj.le,inH,idsT,idsH,AV.ids,AV.idsL,AV.idsR,AObj.ids,lk,hget,go_sem,aeq,aeq.aeqF,simprocAttr,zd3]<;>and_intros<;>rfl) (fun q=>?_)
  obtain ⟨⟨i,b⟩,hi,hbl,hbd⟩:=q
  simp only at hi hbl hbd ⊢
  rcases Nat.lt_or_ge i z with hlt|hge
  ·have hcmp:decide ((i:Int)<(z:Int))=true:=decide_eq_true (by omega)
   have hwi:=zG (i:=i) (by omega)
   have hm1:IntKind.i64.wrap ((z:Int) - 1)=(z:Int) - 1:=zi (by omega) (by omega)
   have hm2:IntKind.i64.wrap ((z:Int) - 1 - i)=((z - 1 - i:Nat):Int):=by rw [zi (by omega) (by omega)];omega
   have hm3:IntKind.i64.wrap (8*(i:Int))=((8*i:Nat):Int):=by rw [zi (by omega) (by omega)];omega
   have hb0:(zg b).length=z:=by rw [zg,List.length_map,hbl]
   have hbp:=zjg (b:=b) (k:=z - 1 - i) (by omega) _ (zpJ h0 (i:=i) (by omega))
   have hzi:z - 1 - i+1=z - i:=by omega
   refine' zf (zY hcmp hm1 hm2 hm3 hb0 natC)
   exact ⟨⟨(i+1,b.set (z - 1 - i) (UInt8.ofNat (n.toNat / 256 ^ i))),by omega,by simpa using hbl,by rw [zgr,← hbd,← hzi,← zpI (by omega)];congr 1;omega⟩,by simp only [AS.le,leT,leH,zh,AsgK,AV.le,AV.leL,AObj.le,inH,idsT,idsH,AV.ids,AV.idsL,AV.idsR,AObj.ids,lk,hget,go_sem,aeq,aeq.aeqF,simprocAttr,hwi,hbp],by simp;omega⟩
  ·have hcmp:decide ((i:Int)<(z:Int))=false:=decide_eq_false (by omega)
   have hb1:(z=(zg b).length)=True:=eq_true (by rw [zg,List.length_map,hbl])
   have hb2:List.take z (zg b)=zg b:=List.take_of_length_le (by rw [zg,List.length_map,hbl];omega)
   refine' zf (zY hcmp hb1 hb2 @if_true.{1} @zal @zbt)
   have:i=z:=by omega
   subst this
   rw [Nat.sub_self,List.drop_zero] at hbd
   rw [putS8,if_neg h,Int.toNat_natCast,hbd]
@[go_sem] noncomputable def zcV:Ent Tryz.prog 107:= .m2 (intT .u64) (intT .i64) zpL
theorem znV (s:Txt) (size:Int) (hs:s.length≤9223372036854775807):AC 53 [.d (.str s),.d (.int .i64 size)] (.tup [.d (.int .u64 (takeS s size).1),.d (.str (takeS s size).2.1),.d (.int .i64 (takeS s size).2.2)]):=by
 refine bod Tryz.func53 Tryz.ntmps53 (fun base=>?_)
 by_cases h:size<1∨8<size
 ·have hdec:(decide (size<1)||decide (8<size))=true:=by simpa using h
  refine' zf hdec
  rw [takeS,if_pos h]
 ·have hdec:(decide (size<1)||decide (8<size))=false:=by simpa using h
  obtain ⟨z,rfl,hz8⟩:∃z:Nat,size=(z:Int)∧z≤8:=⟨size.toNat,by omega,by omega⟩
  refine' zf (zE hdec natC)
  ·have hc:(s.length:Int)<z:=by simpa using hc
   simp only [takeS,if_neg h,if_pos hc]
  have hc:¬(s.length:Int)<z:=by simpa using hc
  refine zC (fun q: { i:Nat // i≤z } =>⟨[(0,true,.d (.str s)),(1,true,.d (.int .i64 z)),(7,true,.d (.int .u64 (takeN (s.take q.1)))),(8,true,.d (.int .i64 q.1))],[],some []⟩) (fun q=>z - q.1) ⟨0,Nat.zero_le _⟩ le1 (fun q=>?_)
  obtain ⟨i,hi⟩:=q
  simp only at hi ⊢
  rcases Nat.lt_or_ge i z with hlt|hge
  ·have hcmp:decide ((i:Int)<(z:Int))=true:=decide_eq_true (by omega)
   have hwi:=zG (i:=i) (by omega)
   obtain ⟨c,hq⟩:=zaP (l:=s) (i:=i) (by omega)
   have hgd:s.getD i 0=c:=by rw [List.getD_eq_getElem?_getD,hq];rfl
   have hst:=znT hq (by omega)
   refine' zf (zN hcmp hgd natC)
   exact ⟨⟨i+1,by omega⟩,by simp only [AS.le,leT,leH,zh,AsgK,AV.le,AV.leL,AObj.le,inH,idsT,idsH,AV.ids,AV.idsL,AV.idsR,AObj.ids,lk,hget,go_sem,aeq,aeq.aeqF,simprocAttr,hwi,hst],by simp;omega⟩
  ·have hcmp:decide ((i:Int)<(z:Int))=false:=decide_eq_false (by omega)
   refine' zf (zE hcmp natC)
   have:i=z:=by omega
   subst this
   simp only [takeS,if_neg h,if_neg hc,Int.toNat_natCast]
@[go_sem] noncomputable def zaS:Ent Tryz.prog 53:= .m2 strT (intT .i64) znV
theorem zjh (c:UInt8):(decide ((c.toNat:Int)<33)||decide ((126:Int)<c.toNat))= !nameB c:=by
 rw [nameB,Bool.not_and]
 congr 1
 ·by_cases h:c.toNat<33
  ·rw [decide_eq_true (p:=(c.toNat:Int)<33) (by omega),decide_eq_false (by omega)];rfl
  ·rw [decide_eq_false (p:=(c.toNat:Int)<33) (by omega),decide_eq_true (by omega)];rfl
 ·by_cases h:126<c.toNat
  ·rw [decide_eq_true (p:=(126:Int)<c.toNat) (by omega),decide_eq_false (by omega)];rfl
  ·rw [decide_eq_false (p:=(126:Int)<c.toNat) (by omega),decide_eq_true (by omega)];rfl
theorem zrw (n k:Nat):decide ((n:Int)≤k)=decide (n≤k):=by
 by_cases h:n≤k
 ·rw [decide_eq_true h,decide_eq_true (by omega)]
 ·rw [decide_eq_false h,decide_eq_false (by omega)]
theorem zmn (s:Txt) (hs:s.length≤9223372036854775807):ACall Tryz.prog 63 0 [.d (.str s)] [] (fun r _=>r= .d (.bool (zgs s))):=by
 refine bod Tryz.func63 Tryz.ntmps63 (fun base=>?_)
 refine' zf fx
 refine zC (fun q: { i:Nat // i≤s.length∧s.all nameB=(s.drop i).all nameB } =>⟨[(0,true,.d (.str s)),(3,true,.d (.int .i64 q.1))],[],some []⟩) (fun q=>s.length - q.1) ⟨0,Nat.zero_le _,rfl⟩ le1 (fun q=>?_)
 obtain ⟨i,hi,hf⟩:=q
 simp only at hi hf ⊢
 rcases Nat.lt_or_ge i s.length with hlt|hge
 ·have hcmp:decide ((i:Int)<(s.length:Int))=true:=decide_eq_true (by omega)
  have hwi:=zG (i:=i) (by omega)
  obtain ⟨c,hq⟩:=zaP (l:=s) (i:=i) (by omega)
  have hgd:s.getD i 0=c:=by rw [List.getD_eq_getElem?_getD,hq];rfl
  rw [zeZ hq,List.all_cons] at hf
  refine' zf (zN hcmp hgd natC)
  ·rw [zjh] at hc
   have hc:nameB c=false:=by simpa using hc
   rw [zgs,hf,hc];rfl
  ·rw [zjh] at hc
   have hc:nameB c=true:=by simpa using hc
   rw [hc,Bool.true_and] at hf
   exact ⟨⟨i+1,by omega,hf⟩,lew,by simp;omega⟩
 ·have hcmp:decide ((i:Int)<(s.length:Int))=false:=decide_eq_false (by omega)
  refine' zf (zE hcmp natC)
  rw [zgs,hf,List.drop_of_length_le (by omega),show (8:Int)=((8:Nat):Int) from rfl,zrw]
  rfl
@[go_sem] noncomputable def zcF:Ent Tryz.prog 63:= .ofL (consL strT nilL) (fun (s,_)=>s.length≤9223372036854775807) (fun (s,_)=> .d (.bool (zgs s))) (fun (s,_) hp=>⟨rfl,zmn s hp⟩)
open Go Go.Proofs
theorem znW (n:Int) (h0:0≤n) (h1:n≤140737488355328):ACall Tryz.prog 26 0 [.d (.str [0]),.d (.int .i64 n)] [] (fun r _=>r= .d (.str (List.replicate n.toNat 0))):=by
 obtain ⟨m,rfl⟩:∃m:Nat,n=m:=⟨n.toNat,by omega⟩
 exact zpz m (by omega)
@[go_sem] noncomputable def zaT:Ent Tryz.prog 26:= .ofL (consL (zlo (.d (.str [0]))) (consL (intT .i64) nilL)) (fun (_,n,_)=>(0≤n)∧(n≤140737488355328)) (fun (_,n,_)=> .d (.str (List.replicate n.toNat 0))) (fun (_,n,_) hp=>⟨rfl,znW n hp.1 hp.2⟩)
theorem zsH (s:Txt) (n:Int) (hs:s.length≤9223372036854775807):AC 165 [.d (.str s),.d (.int .i64 n)] (.tup [.d (.str (padS s n).1),.d (.int .i64 (padS s n).2)]):=by
 refine bod Tryz.func165 Tryz.ntmps165 (fun base=>?_)
 by_cases h:n<s.length∨65536<n
 ·have hdec:(decide (n<(s.length:Int))||decide (65536<n))=true:=by simpa using h
  refine' zf hdec
  rw [padS,if_pos h]
 ·have hdec:(decide (n<(s.length:Int))||decide (65536<n))=false:=by simpa using h
  have hm:IntKind.i64.wrap (n - s.length)=n - s.length:=zi (by omega) (by omega)
  refine' walkW (zE hdec hm) (za zaT <| zb _)
  ·rw [List.length_replicate];omega
  ·simp only [padS,if_neg h]
@[go_sem] noncomputable def zfT:Ent Tryz.prog 165:= .m2 strT (intT .i64) zsH
theorem zrx (s:Txt) (at_:Int) (t:Txt) (hp:s.length≤9223372036854775807∧t.length≤9223372036854775807):AC 84 [.d (.str s),.d (.int .i64 at_),.d (.str t)] (.tup [.d (.str (overS s at_ t).1),.d (.int .i64 (overS s at_ t).2)]):=by
 obtain ⟨hs,ht⟩:=hp
 refine bod Tryz.func84 Tryz.ntmps84 (fun base=>?_)
 have hm:IntKind.i64.wrap ((s.length:Int) - t.length)=(s.length:Int) - t.length:=zi (by omega) (by omega)
 by_cases h:at_<0∨(s.length:Int) - t.length<at_
 ·have hdec:(decide (at_<0)||decide ((s.length:Int) - t.length<at_))=true:=by simpa using h
  refine' zf (zE hm hdec)
  rw [overS,if_pos h]
 ·have hdec:(decide (at_<0)||decide ((s.length:Int) - t.length<at_))=false:=by simpa using h
  have hm2:IntKind.i64.wrap (at_+t.length)=at_+t.length:=zi (by omega) (by omega)
  refine' zf (zN hm hdec hm2)
  ·rw [List.length_take];omega
  ·simp;omega
  ·simp only [overS,if_neg h]
@[go_sem] noncomputable def zQ:Ent Tryz.prog 84:= .m3 strT (intT .i64) strT zrx
theorem zsI (k s:Nat) (hs:s≤64) (h:k*2 ^ s<18446744073709551616):ishl .u64 (k:Int) (s:Int)=((k*2 ^ s:Nat):Int):=by
 unfold ishl
 rw [show min ((s:Int).toNat) IntKind.u64.bits=s by show min ((s:Int).toNat) 64=s;omega,IntKind.wrap_u64]
 have:(k:Int)*2 ^ s=((k*2 ^ s:Nat):Int):=by norm_cast
 rw [this]
 omega
theorem zmo (a b:Nat) (ha:a<18446744073709551616) (hb:b<18446744073709551616):ibits .or .u64 (a:Int) (b:Int)=((a ||| b:Nat):Int):=by
 have hab:a ||| b<18446744073709551616:=Nat.or_lt_two_pow (n:=64) ha hb
 unfold ibits
 simp only [show IntKind.u64.bits=64 from rfl,BitVec.ofInt_natCast,BitVec.toNat_or,BitVec.toNat_ofNat]
 rw [Nat.mod_eq_of_lt (by omega),Nat.mod_eq_of_lt (by omega),IntKind.wrap_u64]
 omega
theorem zmp {l:Txt} {i:Nat} {c:UInt8} (hq:l[i]?=some c) (hi:i<8):ibits .or .u64 (ishl .u64 ((takeN (l.take i):Nat):Int) 8) (IntKind.u64.wrap (c.toNat:Int))=((takeN (l.take (i+1)):Nat):Int):=by
 have h1:takeN (l.take i)<256 ^ 7:=zcE (by rw [List.length_take];omega)
 have h2:=c.toNat_lt
 rw [zat (x:=(c.toNat:Int)) (by omega) (by omega),show (8:Int)=((8:Nat):Int) from rfl,zsI _ _ (by omega) (by omega),zmo _ _ (by omega) (by omega),zdI hq,ze4,← Nat.shiftLeft_eq,← Nat.shiftLeft_add_eq_or_of_lt (i:=8) (by omega),Nat.shiftLeft_eq]
theorem zry (s:Txt) (size:Int) (hs:s.length≤9223372036854775807):AC 113 [.d (.str s),.d (.int .i64 size)] (.tup [.d (.int .u64 (takeS s size).1),.d (.str (takeS s size).2.1),.d (.int .i64 (takeS s size).2.2)]):=by
 refine fbod Tryz.func113 Tryz.ntmps113 (fun base=>?_)
 by_cases h:size<1∨8<size
 ·have hdec:(decide (size<1)||decide (8<size))=true:=by simpa using h
  refine' zf hdec
  rw [takeS,if_pos h]
 ·have hdec:(decide (size<1)||decide (8<size))=false:=by simpa using h
  obtain ⟨z,rfl,hz8⟩:∃z:Nat,size=(z:Int)∧z≤8:=⟨size.toNat,by omega,by omega⟩
  refine' zf (zE hdec natC)
  ·have hc:(s.length:Int)<z:=by simpa using hc
   simp only [takeS,if_neg h,if_pos hc]
  ·have hc:¬(s.length:Int)<z:=by simpa using hc
   omega
  ·rw [zbj]
  have hc:¬(s.length:Int)<z:=by simpa using hc
  have hlz:(s.take z).length=z:=by rw [List.length_take];omega
  simp only [hlz]
  refine zC (fun q: { i:Nat // i≤z } =>⟨[(0,true,.d (.str s)),(1,true,.d (.int .i64 z)),(7,true,.d (.int .u64 (takeN (s.take q.1)))),(25,true,.osl 0 1 z 0 z),(26,true,.d (.int .i64 z)),(27,true,.d (.int .i64 q.1))],[(0,.arr 1 (zg (s.take z)))],some []⟩) (fun q=>z - q.1) ⟨0,Nat.zero_le _⟩ le1 (fun q=>?_)
  obtain ⟨i,hi⟩:=q
  simp only at hi ⊢
  rcases Nat.lt_or_ge i z with hlt|hge
  ·have hcmp:decide ((i:Int)<(z:Int))=true:=decide_eq_true (by omega)
   have hwi:=zG (i:=i) (by omega)
   obtain ⟨c,hq⟩:=zaP (l:=s) (i:=i) (by omega)
   have hgd:(zg (s.take z)).getD i []= [.int .u8 c.toNat]:=by
    rw [zfB (by rw [hlz];omega),List.getD_eq_getElem?_getD,List.getElem?_take,if_pos hlt,hq];rfl
   have hst:=zmp hq (by omega)
   have hb0:(zg (s.take z)).length=z:=by rw [zbj,hlz]
   refine' zf (za4 hcmp hgd hb0 natC)
   exact ⟨⟨i+1,by omega⟩,by simp only [AS.le,leT,leH,zh,AsgK,AV.le,AV.leL,AObj.le,inH,idsT,idsH,AV.ids,AV.idsL,AV.idsR,AObj.ids,lk,hget,go_sem,aeq,aeq.aeqF,simprocAttr,hwi,hst],by simp;omega⟩
  ·have hcmp:decide ((i:Int)<(z:Int))=false:=decide_eq_false (by omega)
   refine' zf (zE hcmp natC)
   have:i=z:=by omega
   subst this
   simp only [takeS,if_neg h,if_neg hc,Int.toNat_natCast]
@[go_sem] noncomputable def zba:Ent Tryz.prog 113:= .m2 strT (intT .i64) zry
open Go Go.Proofs
open Go Go.Proofs
def zdl (z i:Nat):List AV:= [.d (.int .i64 ((z:Int) - 1 - i)),.any]
def zaN (z:Nat):List (List AV):=(List.range z).map (zdl z)
def putB (m z i:Nat):Txt:=List.replicate (z - i) 0++putN m i
def putH (m z i:Nat):AHeap:= [(3,.var [.osl 1 1 z 0 z]),(2,.var [.osl 1 1 z 0 z]),(1,.arr 1 (zg (putB m z i))),(0,.var [.d (.int .u64 ((m / 256 ^ i:Nat):Int))])]
def putF (m z i:Nat):AS:=⟨[(1,true,.vp 3 0)],putH m z i,some []⟩
theorem zeG {m z i:Nat} (h:i≤z):(putB m z i).length=z:=by
 rw [putB,List.length_append,List.length_replicate,zZ];omega
theorem zis (z:Nat):(zaN z).length=z:=by simp [zaN]
theorem zn1 {z i:Nat} (h:i<z):(zaN z)[i]?=some (zdl z i):=by simp [zaN,h]
theorem zjo {z i:Nat} (h:i<z):(zaN z).take i++ [zdl z i]=(zaN z).take (i+1):=by
 rw [zdI (zn1 h)]
theorem zn2 {m z:Nat} (hz:z≤8) (y:Yo Tryz.prog (zaN z)) (v0:Value)
  (hS:∀g M N A w,y.G g M N A w→∃F,∃i,i≤z∧SatH F (putH m z i) w∧Rep w F (putH m z i) (.vp 3 0) v0) {E:Env} {w:World} (hs:SatH E [] w) (hG:y.G (some []) E.M E.N (Own E []) w):
  Calls Tryz.prog 202 (#[]++ #[Value.func (.yield y.yl) #[] #[]]++ #[v0]) w (fun e w'=>∃v E' h' g,e= .returned v∧((∀xs,g=some xs→xs=zaN z)∧h'= [])∧SatH E' h' w'∧Evo 100 E [] w E' h' w'∧y.G g E'.M E'.N (Own E' h') w'):=by
 refine ziY (fl:=100) (pre:= []) (caps:= [.raw v0]) (h:= []) (K:=fun g h'=>(∀xs,g=some xs→xs=zaN z)∧h'= []) Tryz.func202 rfl Tryz.ntmps202 rfl (by simp) y (fun base=>?_) hs (by simp [Reps]) (by simp [Reps,Rep]) hG
 have hS':∀t:List (Nat×(Bool×AV)),lk t 1=some (true,.raw v0)→∀g M N A w,y.G g M N A w→∃F,∃b: { i:Nat // i≤z },SatH F (putF m z b.1).h w∧∀k g v,lk (putF m z b.1).t k=some (g,v)→g=true∧∃u,lk t k=some (true,.raw u)∧Rep w F (putF m z b.1).h v u:=by
  intro t ht g M N A w hg
  obtain ⟨F,i,hi,h1,h2⟩:=hS g M N A w hg
  refine ⟨F,⟨i,hi⟩,h1,?_⟩
  intro k g v hk
  simp only [putF,lk] at hk
  split at hk
  ·rename_i e
   subst e
   simp only [Option.some.injEq,Prod.mk.injEq] at hk
   obtain ⟨rfl,rfl⟩:=hk
   exact ⟨rfl,v0,ht,h2⟩
  ·cases hk
 have hw0:IntKind.i64.wrap ((z:Int) - 1)=(z:Int) - 1:=zi (by omega) (by omega)
 simp only [List.nil_append,zan]
 refine zel noTab (zb _) _ _ (List.take_append_drop 4 _).symm (fun b: { i:Nat // i≤z } =>putF m z b.1) (hS' _ rfl) (fun K hK b=>?_)
 simp only [go_sem,aeq,aeq.aeqF,simprocAttr,putF,putH]
 refine ⟨by rw [zbj,zeG b.2],hK _ ?_⟩
 clear hK K b
 refine zam ?_
 refine zC (fun q: { j:Nat // j≤z } =>⟨[(0,true,.fn (.yield y.yl) [] []),(1,true,.raw v0),(3,true,.d (.int .i64 ((z:Int) - 1 - q.1)))],[],some ((zaN z).take q.1)⟩) (fun q=>z - q.1) ⟨0,Nat.zero_le _⟩ (by simp only [AS.le,leT,leH,zh,AsgK,AV.le,AV.leL,AObj.le,inH,idsT,idsH,AV.ids,AV.idsL,AV.idsR,AObj.ids,lk,hget,go_sem,aeq,aeq.aeqF,simprocAttr,hw0]<;>simp) (fun q=>?_)
 obtain ⟨j,hj⟩:=q
 simp only at hj ⊢
 rcases Nat.lt_or_ge j z with hlt|hge
 ·have hcmp:decide ((0:Int)≤(z:Int) - 1 - j)=true:=decide_eq_true (by omega)
  have hwj:IntKind.i64.wrap ((z:Int) - 1 - j - 1)=(z:Int) - 1 - (j+1:Nat):=by rw [zi (by omega) (by omega)];omega
  have hp:((zaN z).take j++ [zdl z j])<+:zaN z:=by rw [zjo hlt];exact List.take_prefix _ _
  have hpt:=zjo hlt
  simp only [zdl] at hp hpt
  refine' znL (zbS 3) hcmp
  refine zel noTab (zb _) _ _ (List.take_append_drop 6 _).symm (fun b: { i:Nat // i≤z } =>putF m z b.1) (hS' _ rfl) (fun K hK b=>?_)
  have h3:((z:Int) - 1 - j).toNat<z:=by omega
  have hbl:(zg (putB m z b.1)).length=z:=by rw [zbj,zeG b.2]
  simp only [go_sem,aeq,aeq.aeqF,simprocAttr,putF,putH,hbl]
  refine ⟨⟨by omega,by omega⟩,h3,hp,?_,?_⟩
  ·refine hK _ ?_
   clear hK K
   refine' zay fx
   exact ⟨⟨j+1,by omega⟩,by simp only [AS.le,leT,leH,zh,AsgK,AV.le,AV.leL,AObj.le,inH,idsT,idsH,AV.ids,AV.idsL,AV.idsR,AObj.ids,lk,hget,go_sem,aeq,aeq.aeqF,simprocAttr,hwj,hpt],by simp;omega⟩
  ·refine hK _ ?_
   clear hK K
   refine' zay fx
 ·have hcmp:decide ((0:Int)≤(z:Int) - 1 - j)=false:=decide_eq_false (by omega)
  refine' zay hcmp
  rintro xs rfl
  exact List.take_of_length_le (by rw [zis];omega)
theorem zjp (m z:Nat):putH m z 0= [(3,.var [.osl 1 1 z 0 z]),(2,.var [.osl 1 1 z 0 z]),(1,.arr 1 (List.replicate z [D.int .u8 0])),(0,.var [.d (.int .u64 (m:Int))])]:=by
 rw [putH,putB,zd3];simp [putN]
theorem zpV (m z:Nat):ACall Tryz.prog 188 3 [.osl 1 1 z 0 z] [(2,.var [.osl 1 1 z 0 z]),(1,.arr 1 (List.replicate z [D.int .u8 0])),(0,.var [.d (.int .u64 (m:Int))])] (fun r h'=>r= .fn (.func 202) [] [.vp 3 0]∧h'=putH m z 0):=by
 refine bod Tryz.func188 Tryz.ntmps188 (fun base=>?_)
 refine' zf fx
 rw [zjp]
theorem zsK (n:Int) (size:Int) (h0:0≤n) (h1:n<18446744073709551616):ACall Tryz.prog 164 0 [.d (.int .u64 n),.d (.int .i64 size)] [] (fun r _=>r= .d (.str (putS8 n size))):=by
 refine fbod Tryz.func164 Tryz.ntmps164 (fun base=>?_)
 by_cases h:size<1∨8<size
 ·have hdec:(decide (size<1)||decide (8<size))=true:=by simpa using h
  refine' zdL hdec
  rw [putS8,if_pos h]
 ·have hdec:(decide (size<1)||decide (8<size))=false:=by simpa using h
  obtain ⟨z,rfl,hz8⟩:∃z:Nat,size=(z:Int)∧z≤8:=⟨size.toNat,by omega,by omega⟩
  refine' zdL (zE hdec natC)
  obtain ⟨m,rfl⟩:∃m:Nat,n=m:=⟨n.toNat,by omega⟩
  refine ((zpV m z).whole (zM rfl) (Nat.zero_le _) (by rintro r h' ⟨_,rfl⟩ i hi;rw [zjp];simp only [hget] at hi ⊢;repeat' split<;>simp_all)).mono ?_
  rintro r h' ⟨rfl,rfl⟩
  refine hK _ ?_
  clear hK K
  refine zam ?_
  rw [zjp]
  refine aw_le ⟨[(16,true,.fn (.func 202) [] [.vp 3 0]),(5,true,.vp 2 0),(2,true,.vp 0 0)],[(3,.var [.osl 1 1 z 0 z]),(2,.var [.osl 1 1 z 0 z]),(1,.arr 1 (List.replicate z [D.int .u8 0])),(0,.var [.d (.int .u64 (m:Int))])],some []⟩ le0 ?_
  obtain ⟨I,hI⟩:∃I:List (List AV)→AHeap×Option (List (List AV)),I=fun xs=>(putH m z (min xs.length z),some []):=⟨_,rfl⟩
  refine zmt (q:=3) (items:=zaN z) 100 I rfl rfl (zb2 Tryz.func202 (by kernel_rfl) rfl) ?_ ?_ (by simp [cxOf]) ?_ ?_ ?_ ?_ ?_ ?_ ?_ ?_ ?_
  ·intro y v0 hy E w hs hG
   refine zn2 (m:=m) hz8 y v0 (fun g M N A w hg=>?_) hs hG
   obtain ⟨F,xs,q1,q2⟩:=hy g M N A w hg
   rw [hI] at q1 q2
   exact ⟨F,_,Nat.min_le_right _ _,q1,q2⟩
  ·exact zM rfl
  ·exact ⟨_,rfl⟩
  ·intro xs
   rw [hI]
   exact ⟨_,rfl⟩
  ·rw [hI]
   simp only [List.length_nil,Nat.zero_min,zjp]
   simp only [AS.le,leT,leH,zh,AsgK,AV.le,AV.leL,AObj.le,inH,idsT,idsH,AV.ids,AV.idsL,AV.idsR,AObj.ids,lk,hget,go_sem,aeq,aeq.aeqF,simprocAttr]
  ·rw [hI]
   simp only [List.length_nil,Nat.zero_min,zjp]
   simp only [AS.le,leT,leH,zh,AsgK,AV.le,AV.leL,AObj.le,inH,idsT,idsH,AV.ids,AV.idsL,AV.idsR,AObj.ids,lk,hget,go_sem,aeq,aeq.aeqF,simprocAttr]
  ·rw [hI]
  ·intro x hx
   obtain ⟨i,_,rfl⟩:=List.mem_map.1 hx
   rfl
  ·intro t ht
   simp at ht
   rcases ht with rfl|rfl<;>simp [cxOf]
  ·intro xs x hpre l1 r1
   have hlt:xs.length<z:=by
    have:=hpre.length_le
    rw [List.length_append,zis] at this
    simp only [List.length_singleton] at this
    omega
   have hx:x=zdl z xs.length:=by
    obtain ⟨r,hr⟩:=hpre
    have:=congrArg (fun l=>l[xs.length]?) hr
    simp only [zn1 hlt] at this
    simpa using this
   subst hx
   have hmin:min xs.length z=xs.length:=by omega
   have hmin':min (xs.length+1) z=xs.length+1:=by omega
   rw [hI]
   simp only [hmin,List.length_append,List.length_singleton,hmin',zdl]
   generalize xs.length=i at hlt
   clear hmin hmin' hpre hI
   have hbl:(zg (putB m z i)).length=z:=by rw [zbj,zeG (by omega)]
   have hto:((z:Int) - 1 - i).toNat=z - 1 - i:=by omega
   have hlt2:decide ((z:Int) - 1 - i<z)=true:=decide_eq_true (by omega)
   have hle2:decide (0≤(z:Int) - 1 - i)=true:=decide_eq_true (by omega)
   have hby:IntKind.u8.wrap ((m / 256 ^ i:Nat):Int)=((UInt8.ofNat (m / 256 ^ i)).toNat:Int):=u8_of _
   have hsh:ishr .u64 ((m / 256 ^ i:Nat):Int) 8=((m / 256 ^ (i+1):Nat):Int):=by
    rw [show (8:Int)=((8:Nat):Int) from rfl,zq5 _ _ (by omega),Nat.div_div_eq_div_mul,Nat.pow_succ 256 i]
   have hset:(zg (putB m z i)).set (z - 1 - i) (((zg (putB m z i)).getD (z - 1 - i) []).set 0 (D.int .u8 (IntKind.u8.wrap ((m / 256 ^ i:Nat):Int))))=zg (putB m z (i+1)):=by
    rw [zjg (by rw [zeG (by omega)];omega) _ hby]
    congr 1
    have e1:z - i=(z - 1 - i)+1:=by omega
    have e2:z - (i+1)=z - 1 - i:=by omega
    rw [putB,putB,e1,e2,zgr,List.replicate_succ',List.append_assoc,List.set_append,if_neg (by simp)]
    simp
   refine aw_le ⟨[(17,true,.d (.int .i64 ((z:Int) - 1 - i))),(5,true,.vp 2 0),(2,true,.vp 0 0)],[(3,.var [.osl 1 1 z 0 z]),(2,.var [.osl 1 1 z 0 z]),(1,.arr 1 (zg (putB m z i))),(0,.var [.d (.int .u64 ((m / 256 ^ i:Nat):Int))])],some []⟩ (by rw [putH];simp only [AS.le,leT,leH,zh,AsgK,AV.le,AV.leL,AObj.le,inH,idsT,idsH,AV.ids,AV.idsL,AV.idsR,AObj.ids,lk,hget,go_sem,aeq,aeq.aeqF,simprocAttr]) ?_
   (have tk:=zb Tryz.prog);repeat' (first|((first|(refine sa ?_;intro K hK)|refine sb ?_);simp only [go_sem,aeq,aeq.aeqF,simprocAttr,hbl,hto,hset,hsh,Tryz.results164])|refine zaq (fun K hK=>?_)|refine sc ?_|refine zbe rfl (fun hc=>?_) (fun hc=>?_)|(refine hK _ ?_;clear hK K)|((first|refine (show AS.le _ _ from ?_)|refine (show leH _ _ from ?_)|refine (show inH _ _ from ?_));simp only [AS.le,leT,leH,zh,AsgK,AV.le,AV.leL,AObj.le,inH,idsT,idsH,AV.ids,AV.idsL,AV.idsR,AObj.ids,lk,hget,go_sem,aeq,aeq.aeqF,simprocAttr,hbl,hto,hset,hsh])|refine fun (r2:Rnd _)=>?_|with_reducible refine And.intro ?_ ?_|exact ‹_<+:_› |omega|assumption|refine fun (hg:(_:Bool)=(_:Bool))=>?_|clear hK K)
   ·rw [putH];simp only [AS.le,leT,leH,zh,AsgK,AV.le,AV.leL,AObj.le,inH,idsT,idsH,AV.ids,AV.idsL,AV.idsR,AObj.ids,lk,hget,go_sem,aeq,aeq.aeqF,simprocAttr]
   ·rw [putH];simp only [AS.le,leT,leH,zh,AsgK,AV.le,AV.leL,AObj.le,inH,idsT,idsH,AV.ids,AV.idsL,AV.idsR,AObj.ids,lk,hget,go_sem,aeq,aeq.aeqF,simprocAttr]
  ·have hmin:min (zaN z).length z=z:=by rw [zis];omega
   rw [hI]
   simp only [hmin]
   have hbl:(zg (putB m z z)).length=z:=by rw [zbj,zeG (by omega)]
   have hput:putB m z z=putN m z:=by rw [putB,Nat.sub_self];rfl
   have hbl2:(z=(zg (putB m z z)).length)=True:=eq_true hbl.symm
   have hbl3:List.take z (zg (putB m z z))=zg (putB m z z):=List.take_of_length_le (by omega)
   (have tk:=zb Tryz.prog);repeat' (first|((first|(refine sa ?_;intro K hK)|refine sb ?_);simp only [go_sem,aeq,aeq.aeqF,simprocAttr,putH,hbl,Tryz.results164])|refine zaq (fun K hK=>?_)|refine sc ?_|refine zbe rfl (fun hc=>?_) (fun hc=>?_)|(refine hK _ ?_;clear hK K)|((first|refine (show AS.le _ _ from ?_)|refine (show leH _ _ from ?_)|refine (show inH _ _ from ?_));simp only [AS.le,leT,leH,zh,AsgK,AV.le,AV.leL,AObj.le,inH,idsT,idsH,AV.ids,AV.idsL,AV.idsR,AObj.ids,lk,hget,go_sem,aeq,aeq.aeqF,simprocAttr,putH,hbl])|refine fun (r2:Rnd _)=>?_|with_reducible refine And.intro ?_ ?_|exact ‹_<+:_› |omega|assumption|refine fun (hg:(_:Bool)=(_:Bool))=>?_|clear hK K)
   ·rw [hbl3];exact zbt _
   ·have hn:(z:Int) - 1=z - 1:=rfl
    rw [hbl3,zal,hput,putS8,if_neg h]
    rfl
@[go_sem] noncomputable def zcG:Ent Tryz.prog 164:= .ofL (consL (intT .u64) (consL (intT .i64) nilL)) (fun (n,size,_)=>(0≤n)∧(n<18446744073709551616)) (fun (n,size,_)=> .d (.str (putS8 n size))) (fun (n,size,_) hp=>⟨rfl,zsK n size hp.1 hp.2⟩)
end Go.Aw
