/-
 Parts of the proof: lemmas.
-/
import Derived.Test.YtgldbfelccddbaaGreatPart29
set_option maxRecDepth 100000
set_option maxHeartbeats 2000000
set_option linter.unusedSimpArgs false
set_option linter.unusedVariables false
namespace Go.Aw
open Go Go.Proofs
def zcH (p:UInt8×UInt8):List AV:= [.d (.sl 1 [[.int .u8 p.1.toNat],[.int .u8 p.2.toNat]])]
theorem zt7 {s:Txt} {n j:Nat} (hs:s.length=2*n) (hj:j<n):∃p:UInt8×UInt8,s.drop (2*j)=p.1::p.2::s.drop (2*(j+1)):=by
 have h1:=List.drop_eq_getElem_cons (l:=s) (i:=2*j) U
 have h2:=List.drop_eq_getElem_cons (l:=s) (i:=2*j+1) U
 refine ⟨(s[2*j]' U,s[2*j+1]' U),?_⟩
 rw [h1,h2]
 rfl
theorem zt8 (s:Txt):ACall Tryz.prog 351 0 [.d (.sl 1 (ze s)),.d (.int .i64 2)] [] (fun r _=>r= .fn (.func 392) [] [.dp [.d (.sl 1 (ze s))],.dp [.d (.int .i64 2)]]):=by
 refine fbod Tryz.func351 Tryz.ntmps351 (fun base=>?_)
 refine' zc fx
theorem zlb (s:Txt) (n:Nat) (hs:s.length=2*n) (hn:n≤1000000):AIter Tryz.prog 392 100 [] [.dp [.d (.sl 1 (ze s))],.dp [.d (.int .i64 2)]] [] ((duos s).map zcH) (fun g h'=>(∀xs,g=some xs→xs=(duos s).map zcH)∧h'= []):=by
 refine itr Tryz.func392 Tryz.ntmps392 (fun base y=>?_)
 refine zsV ?_
 have hbl:(ze s).length=2*n:=by rw [ze,List.length_map,hs]
 refine' zgc fx
 refine zk (fun q: { q:Nat×List (List AV) // q.1≤n∧q.2++(duos (s.drop (2*q.1))).map zcH=(duos s).map zcH } =>⟨[(0,true,.fn (.yield y.yl) [] []),(1,true,.dp [.d (.sl 1 (ze s))]),(2,true,.dp [.d (.int .i64 2)]),(4,true,.d (.int .i64 ((2*q.1.1:Nat):Int)))],[],some q.1.2⟩) (fun q=>n - q.1.1) ⟨(0,[]),Nat.zero_le _,rfl⟩ le1 (fun q=>?_)
 obtain ⟨⟨j,xs⟩,hj,hf⟩:=q
 simp only at hj hf ⊢
 rcases Nat.lt_or_ge j n with hlt|hge
 ·obtain ⟨⟨a,b⟩,hd⟩:=zt7 hs hlt
  simp only at hd
  have hcmp:decide (((2*j:Nat):Int)<((2*n:Nat):Int))=true:=decide_eq_true U
  have hm:imin 2 ((((ze s).take (2*n)).drop (2*j)).length:Int)=2:=by
   rw [List.length_drop,List.length_take,hbl]
   unfold imin;split<;>omega
  have hw:IntKind.i64.wrap (((2*j:Nat):Int)+2)=((2*(j+1):Nat):Int):=aE
  have hrows:((ze s).take (2*(j+1))).drop (2*j)= [[.int .u8 a.toNat],[.int .u8 b.toNat]]:=by
   have e:(ze s).drop (2*j)= [.int .u8 a.toNat]:: [.int .u8 b.toNat]::ze (s.drop (2*(j+1))):=by
    unfold ze
    rw [← List.map_drop,hd]
    rfl
   rw [List.drop_take,e,show 2*(j+1) - 2*j=2 by omega]
   rfl
  rw [hd,duos,List.map_cons] at hf
  have hpre:(xs++ [zcH (a,b)])<+:(duos s).map zcH:=by rw [← hf];simp
  simp only [zcH] at hpre
  refine' zgc (zo hcmp hbl hm hw hrows @natC)
  exact ⟨⟨(j+1,xs++ [zcH (a,b)]),U,by rw [← hf];simp⟩,by simp only [AS.le,leT,leH,zf,AsgK,AV.le,AV.leL,AObj.le,inH,idsT,idsH,AV.ids,AV.idsL,AV.idsR,AObj.ids,lk,hget,go_sem,aeq,aeq.aeqF,simprocAttr,zcH],af⟩
 ·have hcmp:decide (((2*j:Nat):Int)<((2*n:Nat):Int))=false:=decide_eq_false U
  refine' zgc (zj hcmp hbl)
  rintro zs rfl
  rw [← hf,List.drop_of_length_le U,show duos []= [] from rfl]
  simp
def duoL (l:List (UInt8×UInt8)):List (List D):=(l.map duoN).map intD
@[simp] theorem duoL_nil:duoL []= []:=rfl
theorem zyW (a b:UInt8):ibits .or .i64 (ishl .i64 (a.toNat:Int) 8) (b.toNat:Int)=duoN (a,b):=by
 have h1:=a.toNat_lt
 have h2:=b.toNat_lt
 have e1:ishl .i64 (a.toNat:Int) 8=((a.toNat*2 ^ 8:Nat):Int):=by
  unfold ishl
  rw [show min ((8:Int).toNat) IntKind.i64.bits=8 from rfl,zi U U]
  norm_cast
 have hab:a.toNat*2 ^ 8 ||| b.toNat=a.toNat*2 ^ 8+b.toNat:=by rw [← Nat.shiftLeft_eq,← Nat.shiftLeft_add_eq_or_of_lt (i:=8) U]
 rw [e1]
 unfold ibits duoN
 simp only [show IntKind.i64.bits=64 from rfl,BitVec.ofInt_natCast,BitVec.toNat_or,BitVec.toNat_ofNat]
 rw [Nat.mod_eq_of_lt U,Nat.mod_eq_of_lt U,hab,zi U U]
theorem zp3:∀s:Txt,(duos s).length≤s.length
 | []=>Nat.zero_le _
 | [_]=>Nat.zero_le _
 |a::b::r=>by
  have:=zp3 r
  simp only [duos,List.length_cons]
  omega
theorem zt9 (s:Txt) (hs:s.length≤1000000):AC 298 [.d (.str s)] (.tup [.d (.str (zc8 s).1),.d (.sl 1 ((zc8 s).2.1.map intD)),.d (.int .i64 (zc8 s).2.2)]):=by
 refine fbod Tryz.func298 Tryz.ntmps298 (fun base=>?_)
 obtain ⟨T,hT⟩:∃T,T=zc8 s:=⟨_,rfl⟩
 rw [← hT]
 obtain ⟨B,hB⟩:∃B,B=toBeg s:=⟨_,rfl⟩
 rw [zc8,← hB] at hT
 have hBl:B.2.1.length≤1000000:=cw
 obtain ⟨Z,hZ⟩:∃Z,Z=takeS B.2.1 2:=⟨_,rfl⟩
 rw [← hZ] at hT
 have hZl:Z.2.1.length≤1000000:=by
  rw [hZ,takeS]
  split
  ·exact Nat.zero_le _
  split
  ·exact Nat.zero_le _
  ·simp only [List.length_drop];omega
 have hZn:0≤Z.1∧Z.1≤65535:=by
  rw [hZ,takeS]
  split
  ·simp
  split
  ·simp
  ·have:takeN (B.2.1.take 2)<256 ^ 2:=zdf ax
   exact ⟨Int.natCast_nonneg _,by show ((takeN (B.2.1.take 2):Nat):Int)≤65535;omega⟩
 have hw1:IntKind.i64.wrap Z.1=Z.1:=zi U U
 have hw2:IntKind.i64.wrap (2*Z.1)=2*Z.1:=zi U U
 refine' zgb (zN 6) (zE hB.symm hZ.symm hw1 hw2) (za zfr <| za zbN <| zb _)
 ·rw [if_pos] at hT
  ·rw [hT];rfl
  ·simp only [Bool.or_eq_true,bne_iff_ne] at hc
   omega
 simp only [Bool.or_eq_false_iff,bne_eq_false_iff_eq] at hc
 rw [if_neg U] at hT
 refine zbm (fun K hK=>?_)
 refine zdW noTab (zb _) 2 1 (fun K hK=>?_)
 simp only [go_sem,aeq,aeq.aeqF,simprocAttr]
 refine ⟨_,rfl,?_⟩
 have hbl:(ze Z.2.1).length=Z.2.1.length:=by rw [ze,List.length_map]
 have hbt:(ze Z.2.1).take Z.2.1.length=ze Z.2.1:=List.take_of_length_le U
 simp only [go_sem,aeq,aeq.aeqF,simprocAttr,hbl,hbt]
 refine (zaJ (zt8 Z.2.1)).mono ?_
 rintro r h' ⟨rfl,rfl⟩
 refine' zaS fx
 refine zeO 0 0 1 rfl rfl ?_
 simp only [go_sem,aeq,aeq.aeqF,simprocAttr]
 obtain ⟨n,hn⟩:∃n:Nat,Z.2.1.length=2*n:=⟨Z.1.toNat,U⟩
 have hit:=zlb Z.2.1 n hn U
 obtain ⟨I,hI⟩:∃I:List (List AV)→AHeap×Option (List (List AV)),I=fun xs=>([(1,.arr 1 (duoL ((duos Z.2.1).take xs.length))),(0,.var [.osl 1 1 xs.length 0 xs.length])],some []):=⟨_,rfl⟩
 obtain ⟨G,hG⟩:∃G:List (List AV)→Prop,G=fun _=>True:=⟨_,rfl⟩
 obtain ⟨J,hJ⟩:∃J:Code→AHeap→Option (List (List AV))→Prop,J=fun _ _ _=>False:=⟨_,rfl⟩
 have hdl:(duos Z.2.1).length≤1000000:=Nat.le_trans (zp3 _) hZl
 refine zsU 100 G I J (hit) (by simp only [go_sem,aeq,aeq.aeqF,simprocAttr]) rfl (zbK rfl) (by simp [cxOf,cxY]) rfl (by rw [hG];first|trivial|rfl|simp) (by rw [hI];simp only [AS.le,leT,leH,zf,AsgK,AV.le,AV.leL,AObj.le,inH,idsT,idsH,AV.ids,AV.idsL,AV.idsR,AObj.ids,lk,hget,go_sem,aeq,aeq.aeqF,simprocAttr]<;>simp [AV.leL,AV.le]) (by rw [hI];simp only [AS.le,leT,leH,zf,AsgK,AV.le,AV.leL,AObj.le,inH,idsT,idsH,AV.ids,AV.idsL,AV.idsR,AObj.ids,lk,hget,go_sem,aeq,aeq.aeqF,simprocAttr]<;>simp) (by rw [hI]<;>rfl) ep (by intro t ht;simp at ht;first|(rcases ht with rfl|rfl<;>simp [cxOf,cxY]<;>done)|(subst ht;simp [cxOf,cxY])) ?_ ?_ ?_
 ·intro xs x1 hpre hgd l1 r1
  obtain ⟨ys,⟨a,b⟩,zs,hys,rfl,hzl⟩:=zxD hpre
  obtain ⟨k,hk⟩:∃k,k=xs.length:=⟨_,rfl⟩
  have hq:(duos Z.2.1)[k]?=some (a,b):=by rw [hk,hys,List.length_map,hzl];simp
  have hkl:k<(duos Z.2.1).length:=(List.getElem?_eq_some_iff.1 hq).1
  have htk:=zcz hq
  have hll:(duoL ((duos Z.2.1).take k)).length=k:=by simp only [duoL,List.length_map,List.length_take];omega
  have hwa:IntKind.i64.wrap (a.toNat:Int)=a.toNat:=by have:=a.toNat_lt;exact zi U U
  have hwb:IntKind.i64.wrap (b.toNat:Int)=b.toNat:=by have:=b.toNat_lt;exact zi U U
  have hor:=zyW a b
  have hsn:duoL ((duos Z.2.1).take (k+1))=duoL ((duos Z.2.1).take k)++ [[.int .i64 (duoN (a,b))]]:=by rw [htk];simp [duoL,intD]
  simp only [zcH]
  refine aw_le ⟨[(40,true,.d (.sl 1 [[.int .u8 a.toNat],[.int .u8 b.toNat]])),(5,true,.d (.str B.1)),(9,true,.vp 0 0)],[(1,.arr 1 (duoL ((duos Z.2.1).take k))),(0,.var [.osl 1 1 k 0 k])],some []⟩ (by
   rw [hI]
   simp only [← hk]
   simp only [AS.le,leT,leH,zf,AsgK,AV.le,AV.leL,AObj.le,inH,idsT,idsH,AV.ids,AV.idsL,AV.idsR,AObj.ids,lk,hget,go_sem,aeq,aeq.aeqF,simprocAttr]<;>and_intros<;>rfl) ?_
  have hxl:(xs++ [zcH (a,b)]).length=k+1:=by rw [List.length_append,← hk];rfl
  simp only [zcH] at hxl
  refine' zaS (zo hwa hwb hor hll hI (zj hxl hsn))
  rw [hG];trivial
 ·intro _
  have hxl:((duos Z.2.1).map zcH).length=(duos Z.2.1).length:=List.length_map _
  rw [hI]
  simp only [hxl,List.take_length]
  have hdl2:(duoL (duos Z.2.1)).length=(duos Z.2.1).length:=by simp [duoL]
  refine' zaS hdl2
  rw [hT,List.take_of_length_le (Nat.le_of_eq hdl2)]
  rfl
 ·rw [hJ]
  rintro c h3 g3 hf
  exact hf.elim
@[go_sem] noncomputable def zes:Ent Tryz.prog 298:= .m1 strT zt9
open Go Go.Proofs
theorem zm4 (s:Txt) (hs:s.length≤1000000):AC 334 [.d (.str s)] (.tup [.d (.str (zbq s).1),.d (.sl 1 ((zbq s).2.1.map strD)),.d (.int .i64 (zbq s).2.2)]):=by
 refine fbod Tryz.func334 Tryz.ntmps334 (fun base=>?_)
 obtain ⟨T,hT⟩:∃T,T=zbq s:=⟨_,rfl⟩
 rw [← hT]
 obtain ⟨B,hB⟩:∃B,B=toBeg s:=⟨_,rfl⟩
 rw [zbq,← hB] at hT
 have hBl:B.2.1.length≤1000000:=cw
 have hZk:takeS B.2.1 4=if B.2.1.length<4 then (0,[],22) else (((numAt B.2.1 0 4:Nat):Int),B.2.1.drop 4,0):=by
  rw [takeS,if_neg ae]
  by_cases h4:B.2.1.length<4
  ·rw [if_pos h4,if_pos U]
  ·rw [if_neg h4,if_neg U];rfl
 obtain ⟨Z,hZe⟩:∃Z,Z=takeS B.2.1 4:=⟨_,rfl⟩
 rw [← hZe] at hZk
 refine' walkW (zj hB.symm hZe.symm) (za zcs <| za zp <| zb _)
 ·rw [if_pos (.inl ak)] at hT
  rw [hT];rfl
 ·rw [if_pos] at hT
  ·rw [hT];rfl
  ·rw [hZk] at hc
   by_cases h4:B.2.1.length<4
   ·exact .inr (.inl h4)
   ·rw [if_neg h4] at hc
    simp only [Bool.or_eq_true,bne_iff_ne,decide_eq_true_eq] at hc
    omega
 rename_i hc1
 simp only [Bool.or_eq_false_iff,bne_eq_false_iff_eq,decide_eq_false_iff_not] at hc hc1
 obtain ⟨hc2,hc3⟩:=hc
 have h4:¬B.2.1.length<4:=fun h4=>by rw [hZk,if_pos h4] at hc2;cases hc2
 rw [if_neg h4] at hZk
 obtain ⟨n,hn⟩:∃n,n=numAt B.2.1 0 4:=⟨_,rfl⟩
 rw [← hn] at hZk hT
 subst hZk
 simp only at hc3 ⊢
 have hn1:n≤1000:=U
 rw [if_neg U] at hT
 refine zaI 9 1 rfl ?_
 simp only [go_sem,aeq,aeq.aeqF,simprocAttr]
 refine zk (fun q: { q:Nat×List Txt×Txt // q.1≤n∧q.2.1.length=q.1∧q.2.2.length≤1000000∧zc7 n [] (B.2.1.drop 4)=zc7 (n - q.1) q.2.1 q.2.2 } =>⟨[(5,true,.d (.str B.1)),(6,true,.d (.str q.1.2.2)),(8,true,.d (.int .u64 n)),(9,true,.osl 0 1 q.1.1 0 q.1.1),(10,true,.d (.int .u64 q.1.1))],[(0,.arr 1 (q.1.2.1.map strD))],some []⟩) (fun q=>n - q.1.1) ⟨(0,[],B.2.1.drop 4),Nat.zero_le _,rfl,bB,rfl⟩ le1 (fun q=>?_)
 obtain ⟨⟨i,l,r⟩,hi,hl,hr,hg⟩:=q
 simp only at hi hl hr hg ⊢
 have hll:(l.map strD).length=i:=by rw [List.length_map,hl]
 have hw:IntKind.u64.wrap ((i:Int)+1)=((i+1:Nat):Int):=by rw [zA U U];omega
 rcases Nat.lt_or_ge i n with hlt|hge
 ·have hcmp:decide ((i:Int)<(n:Int))=true:=decide_eq_true U
  obtain ⟨D',hD⟩:∃D,D=toBeg r:=⟨_,rfl⟩
  have hDl:D'.2.1.length≤1000000:=by rw [hD];exact Nat.le_trans (zcU r) hr
  have hgo:zc7 (n - i) l r=if D'.2.2≠0 then none else zc7 (n - (i+1)) (l++ [D'.1]) D'.2.1:=by
   rw [show n - i=(n - (i+1))+1 by omega,zc7,← hD]
  rw [hgo] at hg
  refine' walkW (zq hcmp hD.symm hll) (za zcs <| za zp <| zb _)
  ·rw [hg,if_pos ak] at hT
   rw [hT];rfl
  ·rw [if_neg ak] at hg
   exact ⟨⟨(i+1,l++ [D'.1],D'.2.1),U,by simp [hl],hDl,hg⟩,dM,af⟩
 ·have hcmp:decide ((i:Int)<(n:Int))=false:=decide_eq_false U
  obtain rfl:i=n:=U
  rw [Nat.sub_self,zc7] at hg
  rw [hg] at hT
  simp only at hT
  refine' walkW (zj hcmp hll) (za zcs <| za zp <| zb _)
  ·rw [if_pos ak] at hT
   rw [hT];rfl
  ·rw [if_neg ak] at hT
   rw [hT,List.take_of_length_le (Nat.le_of_eq hll)]
@[go_sem] noncomputable def zfG:Ent Tryz.prog 334:= .m1 strT zm4
theorem zwF (a b:UInt8) (r:Txt):takeS (a::b::r) 2=(duoN (a,b),r,0):=by
 rw [takeS,if_neg ae,if_neg dg]
 refine Prod.ext ?_ rfl
 show ((takeN [a,b]:Nat):Int)=duoN (a,b)
 simp [takeN,duoN]
theorem zm5:∀ (s:Txt) (n:Nat),s.length=2*n→(duos s).length=n
 | [],n,h=>by simp [duos] at h ⊢;omega
 | [_],n,h=>by simp at h;omega
 |a::b::r,n,h=>by
  obtain ⟨k,rfl⟩:∃k,n=k+1:=⟨n - 1,by simp at h;omega⟩
  rw [duos,List.length_cons,zm5 r k (by simp at h;omega)]
theorem zm6:∀ (s:Txt) (i:Nat),(duos s).drop i=duos (s.drop (2*i))
 |s,0=>rfl
 | [],i+1=>by simp [duos]
 | [x],i+1=>by
  have e:List.drop (2*(i+1)) [x]= []:=List.drop_of_length_le (show 1≤2*(i+1) by omega)
  rw [e];simp [duos]
 |a::b::r,i+1=>by
  rw [duos,List.drop_succ_cons,zm6 r i,show 2*(i+1)=2*i+1+1 by omega,List.drop_succ_cons,List.drop_succ_cons]
theorem zwG {s:Txt} {n i:Nat} {a b:UInt8} {r:Txt} (hs:s.length=2*n) (hi:i<n) (hp:s.drop (2*i)=a::b::r):(duos s)[i]?=some (a,b):=by
 have h:=zm6 s i
 rw [hp,duos] at h
 have:=congrArg (fun l=>l[0]?) h
 simpa using this
theorem zm7 (s:Txt) (hs:s.length≤1000000):AC 263 [.d (.str s)] (.tup [.d (.str (zc8 s).1),.d (.sl 1 ((zc8 s).2.1.map intD)),.d (.int .i64 (zc8 s).2.2)]):=by
 refine fbod Tryz.func263 Tryz.ntmps263 (fun base=>?_)
 obtain ⟨T,hT⟩:∃T,T=zc8 s:=⟨_,rfl⟩
 rw [← hT]
 obtain ⟨B,hB⟩:∃B,B=toBeg s:=⟨_,rfl⟩
 have hBl:B.2.1.length≤1000000:=cw
 obtain ⟨Z,hZ⟩:∃Z,Z=takeS B.2.1 2:=⟨_,rfl⟩
 rw [zc8,← hB,← hZ] at hT
 have hZ1:0≤Z.1∧Z.1<65536∧Z.2.1.length≤1000000:=by
  rw [hZ,takeS,if_neg ae]
  split
  ·exact ⟨ae,ae,Nat.zero_le _⟩
  ·have:=zdf (l:=B.2.1.take (2:Int).toNat) (i:=2) (by rw [List.length_take];exact Nat.min_le_left _ _)
   refine ⟨U,au,?_⟩
   simp only [List.length_drop];omega
 have hw1:IntKind.u64.wrap (2*Z.1)=2*Z.1:=zA U U
 have hw2:IntKind.u64.wrap (Z.2.1.length:Int)=Z.2.1.length:=zA U U
 refine' walkW (zE hB.symm hZ.symm hw1 hw2) (za zcs <| za zp <| zb _)
 ·rw [if_pos (.inl ak)] at hT
  rw [hT];rfl
 ·rw [if_pos] at hT
  ·rw [hT];rfl
  ·simp only [Bool.or_eq_true,bne_iff_ne] at hc
   omega
 rename_i hc1
 simp only [Bool.or_eq_false_iff,bne_eq_false_iff_eq] at hc hc1
 rw [if_neg U] at hT
 obtain ⟨n,hn⟩:∃n:Nat,Z.2.1.length=2*n:=⟨Z.1.toNat,U⟩
 have hdl:(duos Z.2.1).length=n:=zm5 _ n hn
 refine zaI 9 1 rfl ?_
 simp only [go_sem,aeq,aeq.aeqF,simprocAttr]
 refine zk (fun q: { i:Nat // i≤n } =>⟨[(5,true,.d (.str B.1)),(6,true,.d (.str (Z.2.1.drop (2*q.1)))),(9,true,.osl 0 1 q.1 0 q.1)],[(0,.arr 1 ((((duos Z.2.1).take q.1).map duoN).map intD))],some []⟩) (fun q=>n - q.1) ⟨0,Nat.zero_le _⟩ le1 (fun q=>?_)
 obtain ⟨i,hi⟩:=q
 simp only at hi ⊢
 have hll:(((duos Z.2.1).take i).map duoN |>.map intD).length=i:=by simp only [List.length_map,List.length_take];omega
 rcases Nat.lt_or_ge i n with hlt|hge
 ·obtain ⟨⟨a,b⟩,hp⟩:=zt7 hn hlt
  simp only at hp
  have hcmp:(Z.2.1.drop (2*i) != [])=true:=by rw [hp];rfl
  have hlen:(Z.2.1.drop (2*i)).length≤9223372036854775807:=ar
  have ht:=zwF a b (Z.2.1.drop (2*(i+1)))
  rw [← hp] at ht
  have hwd:IntKind.i64.wrap (duoN (a,b))=duoN (a,b):=by
   have h1:=a.toNat_lt
   have h2:=b.toNat_lt
   exact zi (by unfold duoN;simp only;omega) (by unfold duoN;simp only;omega)
  have hq:(duos Z.2.1)[i]?=some (a,b):=zwG hn hlt hp
  have hsn:((((duos Z.2.1).take (i+1)).map duoN).map intD)=((((duos Z.2.1).take i).map duoN).map intD)++ [[.int .i64 (duoN (a,b))]]:=by rw [zcz hq];simp [intD]
  refine' walkW (zE hcmp ht hwd hll) (za zcs <| za zp <| zb _)
  all_goals first|omega|skip
  exact ⟨⟨i+1,U⟩,by simp only [AS.le,leT,leH,zf,AsgK,AV.le,AV.leL,AObj.le,inH,idsT,idsH,AV.ids,AV.idsL,AV.idsR,AObj.ids,lk,hget,go_sem,aeq,aeq.aeqF,simprocAttr,hsn],af⟩
 ·obtain rfl:i=n:=by omega
  have hcmp:(Z.2.1.drop (2*i) != [])=false:=by rw [List.drop_of_length_le U];rfl
  refine' zc (zj hcmp hll)
  rw [hT,List.take_of_length_le (Nat.le_of_eq hdl),List.take_of_length_le (by simp [hdl])]
@[go_sem] noncomputable def zaa:Ent Tryz.prog 263:= .m1 strT zm7
end Go.Aw
