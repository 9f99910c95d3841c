/-
 What asks for an export, read: the program's nego.ToAsks.
-/
import Derived.Test.YtgldbfelccddbaaGreatBeg30
set_option maxRecDepth 100000
set_option maxHeartbeats 2000000
set_option linter.unusedSimpArgs false
set_option linter.unusedVariables false
namespace Go.Aw
open Go Go.Proofs
def zaN (p:UInt8×UInt8):List AV:= [.d (.sl 1 [[.int .u8 p.1.toNat],[.int .u8 p.2.toNat]])]
theorem zpN {s:Txt} {n j:Nat} (hs:s.length=2*n) (hj:j<n):∃p:UInt8×UInt8,s.drop (2*j)=p.1::p.2::s.drop (2*(j+1)):=by
 have h1:=List.drop_eq_getElem_cons (l:=s) (i:=2*j) (by omega)
 have h2:=List.drop_eq_getElem_cons (l:=s) (i:=2*j+1) (by omega)
 refine ⟨(s[2*j]'(by omega),s[2*j+1]'(by omega)),?_⟩
 rw [h1,h2]
 rfl
theorem zmY (s:Txt):ACall Tryz.prog 351 0 [.d (.sl 1 (zg s)),.d (.int .i64 2)] [] (fun r _=>r= .fn (.func 392) [] [.dp [.d (.sl 1 (zg s))],.dp [.d (.int .i64 2)]]):=by
 refine fbod Tryz.func351 Tryz.ntmps351 (fun base=>?_)
 refine' zc fx
theorem zgI (s:Txt) (n:Nat) (hs:s.length=2*n) (hn:n≤1000000):AIter Tryz.prog 392 100 [] [.dp [.d (.sl 1 (zg s))],.dp [.d (.int .i64 2)]] [] ((duos s).map zaN) (fun g h'=>(∀xs,g=some xs→xs=(duos s).map zaN)∧h'= []):=by
 refine itr Tryz.func392 Tryz.ntmps392 (fun base y=>?_)
 refine zlP ?_
 have hbl:(zg s).length=2*n:=by rw [zg,List.length_map,hs]
 refine' zbm fx
 refine zt (fun q: { q:Nat×List (List AV) // q.1≤n∧q.2++(duos (s.drop (2*q.1))).map zaN=(duos s).map zaN } =>⟨[(0,true,.fn (.yield y.yl) [] []),(1,true,.dp [.d (.sl 1 (zg s))]),(2,true,.dp [.d (.int .i64 2)]),(4,true,.d (.int .i64 ((2*q.1.1:Nat):Int)))],[],some q.1.2⟩) (fun q=>n - q.1.1) ⟨(0,[]),Nat.zero_le _,rfl⟩ le1 (fun q=>?_)
 obtain ⟨⟨j,xs⟩,hj,hf⟩:=q
 simp only at hj hf ⊢
 rcases Nat.lt_or_ge j n with hlt|hge
 ·obtain ⟨⟨a,b⟩,hd⟩:=zpN hs hlt
  simp only at hd
  have hcmp:decide (((2*j:Nat):Int)<((2*n:Nat):Int))=true:=decide_eq_true (by omega)
  have hm:imin 2 ((((zg s).take (2*n)).drop (2*j)).length:Int)=2:=by
   rw [List.length_drop,List.length_take,hbl]
   unfold imin;split<;>omega
  have hw:IntKind.i64.wrap (((2*j:Nat):Int)+2)=((2*(j+1):Nat):Int):=by rw [zf (by omega) (by omega)];omega
  have hrows:((zg s).take (2*(j+1))).drop (2*j)= [[.int .u8 a.toNat],[.int .u8 b.toNat]]:=by
   have e:(zg s).drop (2*j)= [.int .u8 a.toNat]:: [.int .u8 b.toNat]::zg (s.drop (2*(j+1))):=by
    unfold zg
    rw [← List.map_drop,hd]
    rfl
   rw [List.drop_take,e,show 2*(j+1) - 2*j=2 by omega]
   rfl
  rw [hd,duos,List.map_cons] at hf
  have hpre:(xs++ [zaN (a,b)])<+:(duos s).map zaN:=by rw [← hf];simp
  simp only [zaN] at hpre
  refine' zbm (zA hcmp hbl hm hw hrows @natC)
  exact ⟨⟨(j+1,xs++ [zaN (a,b)]),by omega,by rw [← hf];simp⟩,by simp only [AS.le,leT,leH,zh,AsgK,AV.le,AV.leL,AObj.le,inH,idsT,idsH,AV.ids,AV.idsL,AV.idsR,AObj.ids,lk,hget,go_sem,aeq,aeq.aeqF,simprocAttr,zaN],by simp;omega⟩
 ·have hcmp:decide (((2*j:Nat):Int)<((2*n:Nat):Int))=false:=decide_eq_false (by omega)
  refine' zbm (zu hcmp hbl)
  rintro zs rfl
  rw [← hf,List.drop_of_length_le (by omega),show duos []= [] from rfl]
  simp
def duoL (l:List (UInt8×UInt8)):List (List D):=(l.map duoN).map intD
@[simp] theorem duoL_nil:duoL []= []:=rfl
theorem zqD (a b:UInt8):ibits .or .i64 (ishl .i64 (a.toNat:Int) 8) (b.toNat:Int)=duoN (a,b):=by
 have h1:=a.toNat_lt
 have h2:=b.toNat_lt
 have e1:ishl .i64 (a.toNat:Int) 8=((a.toNat*2 ^ 8:Nat):Int):=by
  unfold ishl
  rw [show min ((8:Int).toNat) IntKind.i64.bits=8 from rfl,zf (by omega) (by omega)]
  norm_cast
 have hab:a.toNat*2 ^ 8 ||| b.toNat=a.toNat*2 ^ 8+b.toNat:=by rw [← Nat.shiftLeft_eq,← Nat.shiftLeft_add_eq_or_of_lt (i:=8) (by omega)]
 rw [e1]
 unfold ibits duoN
 simp only [show IntKind.i64.bits=64 from rfl,BitVec.ofInt_natCast,BitVec.toNat_or,BitVec.toNat_ofNat]
 rw [Nat.mod_eq_of_lt (by omega),Nat.mod_eq_of_lt (by omega),hab,zf (by omega) (by omega)]
theorem zjZ:∀s:Txt,(duos s).length≤s.length
 | []=>Nat.zero_le _
 | [_]=>Nat.zero_le _
 |a::b::r=>by
  have:=zjZ r
  simp only [duos,List.length_cons]
  omega
theorem zmZ (s:Txt) (hs:s.length≤1000000):AC 298 [.d (.str s)] (.tup [.d (.str (zcy s).1),.d (.sl 1 ((zcy s).2.1.map intD)),.d (.int .i64 (zcy s).2.2)]):=by
 refine fbod Tryz.func298 Tryz.ntmps298 (fun base=>?_)
 obtain ⟨T,hT⟩:∃T,T=zcy s:=⟨_,rfl⟩
 rw [← hT]
 obtain ⟨B,hB⟩:∃B,B=toBeg s:=⟨_,rfl⟩
 rw [zcy,← hB] at hT
 have hBl:B.2.1.length≤1000000:=by rw [hB];exact Nat.le_trans (zeZ s) hs
 obtain ⟨Z,hZ⟩:∃Z,Z=takeS B.2.1 2:=⟨_,rfl⟩
 rw [← hZ] at hT
 have hZl:Z.2.1.length≤1000000:=by
  rw [hZ,takeS]
  split
  ·exact Nat.zero_le _
  split
  ·exact Nat.zero_le _
  ·simp only [List.length_drop];omega
 have hZn:0≤Z.1∧Z.1≤65535:=by
  rw [hZ,takeS]
  split
  ·simp
  split
  ·simp
  ·have:takeN (B.2.1.take 2)<256 ^ 2:=zgt (by rw [List.length_take];omega)
   exact ⟨Int.natCast_nonneg _,by show ((takeN (B.2.1.take 2):Nat):Int)≤65535;omega⟩
 have hw1:IntKind.i64.wrap Z.1=Z.1:=zf (by omega) (by omega)
 have hw2:IntKind.i64.wrap (2*Z.1)=2*Z.1:=zf (by omega) (by omega)
 refine' zoQ (zP 6) (z7 hB.symm hZ.symm hw1 hw2) (zb zcs <| zb zab <| za _)
 ·rw [if_pos] at hT
  ·rw [hT];rfl
  ·simp only [Bool.or_eq_true,bne_iff_ne] at hc
   omega
 simp only [Bool.or_eq_false_iff,bne_eq_false_iff_eq] at hc
 rw [if_neg (by omega)] at hT
 refine zbh (fun K hK=>?_)
 refine zbv noTab (za _) 2 1 (fun K hK=>?_)
 simp only [go_sem,aeq,aeq.aeqF,simprocAttr]
 refine ⟨_,rfl,?_⟩
 have hbl:(zg Z.2.1).length=Z.2.1.length:=by rw [zg,List.length_map]
 have hbt:(zg Z.2.1).take Z.2.1.length=zg Z.2.1:=List.take_of_length_le (by omega)
 simp only [go_sem,aeq,aeq.aeqF,simprocAttr,hbl,hbt]
 refine (zbo (zmY Z.2.1)).mono ?_
 rintro r h' ⟨rfl,rfl⟩
 refine' zi fx
 refine zc6 0 0 1 rfl rfl ?_
 simp only [go_sem,aeq,aeq.aeqF,simprocAttr]
 obtain ⟨n,hn⟩:∃n:Nat,Z.2.1.length=2*n:=⟨Z.1.toNat,by omega⟩
 have hit:=zgI Z.2.1 n hn (by omega)
 obtain ⟨I,hI⟩:∃I:List (List AV)→AHeap×Option (List (List AV)),I=fun xs=>([(1,.arr 1 (duoL ((duos Z.2.1).take xs.length))),(0,.var [.osl 1 1 xs.length 0 xs.length])],some []):=⟨_,rfl⟩
 obtain ⟨G,hG⟩:∃G:List (List AV)→Prop,G=fun _=>True:=⟨_,rfl⟩
 obtain ⟨J,hJ⟩:∃J:Code→AHeap→Option (List (List AV))→Prop,J=fun _ _ _=>False:=⟨_,rfl⟩
 have hdl:(duos Z.2.1).length≤1000000:=Nat.le_trans (zjZ _) hZl
 refine zhk 100 G I J (hit) (by simp only [go_sem,aeq,aeq.aeqF,simprocAttr]) rfl (zat rfl) (by simp [cxOf,cxY]) rfl (by rw [hG];first|trivial|rfl|simp) (by rw [hI];simp only [AS.le,leT,leH,zh,AsgK,AV.le,AV.leL,AObj.le,inH,idsT,idsH,AV.ids,AV.idsL,AV.idsR,AObj.ids,lk,hget,go_sem,aeq,aeq.aeqF,simprocAttr]<;>simp [AV.leL,AV.le]) (by rw [hI];simp only [AS.le,leT,leH,zh,AsgK,AV.le,AV.leL,AObj.le,inH,idsT,idsH,AV.ids,AV.idsL,AV.idsR,AObj.ids,lk,hget,go_sem,aeq,aeq.aeqF,simprocAttr]<;>simp) (by rw [hI]<;>rfl) (by intro x hx;obtain ⟨q,_,rfl⟩:=List.mem_map.1 hx;rfl) (by intro t ht;simp at ht;first|(rcases ht with rfl|rfl<;>simp [cxOf,cxY]<;>done)|(subst ht;simp [cxOf,cxY])) ?_ ?_ ?_
 ·intro xs x1 hpre hgd l1 r1
  obtain ⟨ys,⟨a,b⟩,zs,hys,rfl,hzl⟩:=zeK hpre
  obtain ⟨k,hk⟩:∃k,k=xs.length:=⟨_,rfl⟩
  have hq:(duos Z.2.1)[k]?=some (a,b):=by rw [hk,hys,List.length_map,hzl];simp
  have hkl:k<(duos Z.2.1).length:=(List.getElem?_eq_some_iff.1 hq).1
  have htk:=zcH hq
  have hll:(duoL ((duos Z.2.1).take k)).length=k:=by simp only [duoL,List.length_map,List.length_take];omega
  have hwa:IntKind.i64.wrap (a.toNat:Int)=a.toNat:=by have:=a.toNat_lt;exact zf (by omega) (by omega)
  have hwb:IntKind.i64.wrap (b.toNat:Int)=b.toNat:=by have:=b.toNat_lt;exact zf (by omega) (by omega)
  have hor:=zqD a b
  have hsn:duoL ((duos Z.2.1).take (k+1))=duoL ((duos Z.2.1).take k)++ [[.int .i64 (duoN (a,b))]]:=by rw [htk];simp [duoL,intD]
  simp only [zaN]
  refine aw_le ⟨[(40,true,.d (.sl 1 [[.int .u8 a.toNat],[.int .u8 b.toNat]])),(5,true,.d (.str B.1)),(9,true,.vp 0 0)],[(1,.arr 1 (duoL ((duos Z.2.1).take k))),(0,.var [.osl 1 1 k 0 k])],some []⟩ (by
   rw [hI]
   simp only [← hk]
   simp only [AS.le,leT,leH,zh,AsgK,AV.le,AV.leL,AObj.le,inH,idsT,idsH,AV.ids,AV.idsL,AV.idsR,AObj.ids,lk,hget,go_sem,aeq,aeq.aeqF,simprocAttr]<;>and_intros<;>rfl) ?_
  have hxl:(xs++ [zaN (a,b)]).length=k+1:=by rw [List.length_append,← hk];rfl
  simp only [zaN] at hxl
  refine' zi (zA hwa hwb hor hll hI (zu hxl hsn))
  rw [hG];trivial
 ·intro _
  have hxl:((duos Z.2.1).map zaN).length=(duos Z.2.1).length:=List.length_map _
  rw [hI]
  simp only [hxl,List.take_length]
  have hdl2:(duoL (duos Z.2.1)).length=(duos Z.2.1).length:=by simp [duoL]
  refine' zi hdl2
  rw [hT,List.take_of_length_le (Nat.le_of_eq hdl2)]
  rfl
 ·rw [hJ]
  rintro c h3 g3 hf
  exact hf.elim
@[go_sem] noncomputable def zbR:Ent Tryz.prog 298:= .m1 strT zmZ
end Go.Aw
