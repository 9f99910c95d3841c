/-
 Parts of the proof: lemmas.
-/
import Derived.Test.YtgldbfelccddbaaGreatPart25
set_option maxRecDepth 100000
set_option maxHeartbeats 2000000
set_option linter.unusedSimpArgs false
set_option linter.unusedVariables false
namespace Go.Aw
open Go Go.Proofs
theorem zoO:ACall Tryz.prog 55 0 [] [] (fun r _=>r= .d (.str zjU)):=by
 refine fbod Tryz.func55 Tryz.ntmps55 (fun base=>?_)
 refine' zc fx
 rfl
@[go_sem] noncomputable def zln:Ent Tryz.prog 55:= .ofL nilL (fun _=>True) (fun _=> .d (.str zjU)) (fun _ hp=>⟨rfl,zoO⟩)
theorem zrz (n:Int) (hp:0≤n∧n≤4294967295):AC 332 [.d (.int .u32 n)] (.d (.str (putS8 n 4))):=by
 obtain ⟨h0,h1⟩:=hp
 have hw:IntKind.u64.wrap n=n:=zA h0 U
 refine fbod Tryz.func332 Tryz.ntmps332 (fun base=>?_)
 refine' walkW hw (za zt <| za zp <| zb _)
@[go_sem] noncomputable def zbQ:Ent Tryz.prog 332:= .m1 (intT .u32) zrz
theorem zoP (s:Txt) (hs:s.length≤4294967295):AC 262 [.d (.str s)] (.d (.str (zd4 s))):=by
 have hw:IntKind.u64.wrap (s.length:Int)=s.length:=zA U U
 have hm:((s.length:Int).tmod 4294967296)=s.length:=Int.tmod_eq_of_lt U U
 have hw3:IntKind.u32.wrap (s.length:Int)=s.length:=zbT U U
 have hl:=zcF (s.length:Int)
 refine fbod Tryz.func262 Tryz.ntmps262 (fun base=>?_)
 refine' walkW (zq hw hm hw3) (za zbQ <| za zp <| zb _)
 rfl
@[go_sem] noncomputable def zaj:Ent Tryz.prog 262:= .m1 strT zoP
theorem zm0 (o k:Int) (data:Txt) (h0:0≤o) (h1:o≤4294967295) (h2:0≤k) (h3:k≤4294967295):ACall Tryz.prog 331 0 [.agg [.d (.int .u32 o),.d (.int .u32 k),.d (.str data)]] [] (fun r _=>r= .tup [.d (.str (sayS o k data)),.d (.int .i64 (if 4096<data.length then 11 else 0))]):=by
 by_cases hd:4096<data.length
 ·have hb:decide ((4096:Int)<(data.length:Int))=true:=decide_eq_true U
  rw [if_pos hd,sayS,if_pos hd]
  refine fbod Tryz.func331 Tryz.ntmps331 (fun base=>?_)
  refine' zc hb
 ·have hb:decide ((4096:Int)<(data.length:Int))=false:=decide_eq_false U
  have hw3:IntKind.u32.wrap (data.length:Int)=data.length:=zbT U U
  have l1:=zcF o
  have l2:=zcF k
  have l3:=zcF (data.length:Int)
  rw [if_neg hd,sayS,if_neg hd]
  refine fbod Tryz.func331 Tryz.ntmps331 (fun base=>?_)
  refine' walkW (zj hb hw3) (za zbQ <| za zp <| zb _)
  all_goals first|(simp only [List.length_append];omega)|simp [ansHd]
@[go_sem] noncomputable def zfD:Ent Tryz.prog 331:= .ofL (consL (aggT (consL (intT .u32) (consL (intT .u32) (consL strT nilL))) (fun p=>p) (fun p=>p) (fun _=>rfl)) nilL) (fun ((o,k,data,_),_)=>(0≤o)∧(o≤4294967295)∧(0≤k)∧(k≤4294967295)) (fun ((o,k,data,_),_)=> .tup [.d (.str (sayS o k data)),.d (.int .i64 (if 4096<data.length then 11 else 0))]) (fun ((o,k,data,_),_) hp=>⟨rfl,zm0 o k data hp.1 hp.2.1 hp.2.2.1 hp.2.2.2⟩)
theorem zoQ (s:Txt) (hs:s.length≤9223372036854775807):AC 333 [.d (.str s)] (.tup [.d (.str (toBeg s).1),.d (.str (toBeg s).2.1),.d (.int .i64 (toBeg s).2.2)]):=by
 have hZk:takeS s 4=if s.length<4 then (0,[],22) else (((numAt s 0 4:Nat):Int),s.drop 4,0):=by
  rw [takeS,if_neg ae]
  by_cases h4:s.length<4
  ·rw [if_pos h4,if_pos U]
  ·rw [if_neg h4,if_neg U];rfl
 by_cases h4:s.length<4
 ·rw [if_pos h4] at hZk
  rw [toBeg,if_pos h4]
  refine fbod Tryz.func333 Tryz.ntmps333 (fun base=>?_)
  refine' walkW hZk (za zbQ <| za zp <| zb _)
 ·rw [if_neg h4] at hZk
  have hw:IntKind.u64.wrap ((s.drop 4).length:Int)=(s.drop 4).length:=zA U ar
  obtain ⟨D,hD⟩:∃D,D=s.drop 4:=⟨_,rfl⟩
  have hDl:D.length+4=s.length:=cD
  obtain ⟨N,hN⟩:∃N,N=numAt s 0 4:=⟨_,rfl⟩
  rw [← hD] at hw hZk
  rw [← hN] at hZk
  rw [toBeg,if_neg h4,← hN,← hD,← List.drop_drop,← hD]
  by_cases hn:s.length<4+N
  ·have hb:decide ((D.length:Int)<(N:Int))=true:=decide_eq_true U
   rw [if_pos hn]
   refine fbod Tryz.func333 Tryz.ntmps333 (fun base=>?_)
   refine' walkW (zq hZk hw hb) (za zbQ <| za zp <| zb _)
  ·have hb:decide ((D.length:Int)<(N:Int))=false:=decide_eq_false U
   rw [if_neg hn]
   refine fbod Tryz.func333 Tryz.ntmps333 (fun base=>?_)
   refine' walkW (zq hZk hw hb) (za zbQ <| za zp <| zb _)
@[go_sem] noncomputable def zcs:Ent Tryz.prog 333:= .m1 strT zoQ
theorem zm1 {s:Txt} {i:Nat} (hi:i<s.length):s.take (i+1)=s.take i++ [s.getD i 0]:=by
 rw [List.take_add_one,List.getD_eq_getElem?_getD,List.getElem?_eq_getElem hi];rfl
theorem zuz {s h:Txt} {i:Nat} (hi:i<s.length) (hj:i<h.length) (ht:s.take i=h.take i):(s.getD i 0=h.getD i 0→s.take (i+1)=h.take (i+1))∧(s.getD i 0≠h.getD i 0→∀k,i<k→s.take k≠h.take k):=by
 refine ⟨fun e=>by rw [zm1 hi,zm1 hj,ht,e],fun hne k hk e=>hne ?_⟩
 have e2:=congrArg (fun l:Txt=>l.getD i 0) e
 simpa only [List.getD_eq_getElem?_getD,List.getElem?_take,hk,if_true] using e2
theorem zxb {s h:Txt} {n:Nat} (hn:n=min h.length s.length):s.take h.length=h.take s.length↔s.take n=h.take n:=by
 subst hn
 rcases Nat.le_total h.length s.length with e|e
 ·rw [Nat.min_eq_left e,List.take_of_length_le e,List.take_length]
 ·rw [Nat.min_eq_right e,List.take_of_length_le e,List.take_length]
def zcV (s:Txt):List Int×Txt×Txt×Int:=
 if s.take 8≠optHd.take s.length then ([],[],[],14)
 else if s.length<16 then ([],[],[],22)
 else if 4096<numAt s 12 4 then ([],[],[],11)
 else if s.length<16+numAt s 12 4 then ([],[],[],22)
 else ([(numAt s 8 4:Int),(numAt s 12 4:Int)],(s.drop 16).take (numAt s 12 4),s.drop (16+numAt s 12 4),0)
def u64D (x:Int):List D:= [.int .u64 x]
theorem zoR (s:Txt) (h:4≤s.length):takeS s 4=(((numAt s 0 4:Nat):Int),s.drop 4,0):=by
 rw [takeS,if_neg ae,if_neg U];rfl
theorem zqe (s:Txt) (a i k:Nat):numAt (s.drop a) i k=numAt s (a+i) k:=by
 unfold numAt;rw [List.drop_drop]
theorem zoS (s:Txt) (hs:s.length≤4611686018427387904):ACall Tryz.prog 258 0 [.d (.str s),.d (.str [73,72,65,86,69,79,80,84]),.d (.int .i64 2)] [] (fun r _=>r= .tup [.d (.sl 1 ((zcV s).1.map u64D)),.d (.str (zcV s).2.1),.d (.str (zcV s).2.2.1),.d (.int .i64 (zcV s).2.2.2)]):=by
 obtain ⟨V,hV⟩:∃V,V=zcV s:=⟨_,rfl⟩
 rw [← hV]
 obtain ⟨n,hn⟩:∃n,n=min 8 s.length:=⟨_,rfl⟩
 obtain ⟨H,hH⟩:∃H,H=optHd:=⟨_,rfl⟩
 have hHl:H.length=8:=by rw [hH];rfl
 have hm:s.take 8=optHd.take s.length↔s.take n=H.take n:=dW
 refine fbod Tryz.func258 Tryz.ntmps258 (fun base=>?_)
 rw [show ([73,72,65,86,69,79,80,84]:Txt)=H from hH.symm]
 refine' zc fx
 refine zk (fun q: { i:Nat // i≤n∧s.take i=H.take i } =>⟨[(0,true,.d (.str s)),(1,true,.d (.str H)),(2,true,.d (.int .i64 2)),(10,true,.d (.int .i64 q.1))],[],some []⟩) (fun q=>n - q.1) ⟨0,Nat.zero_le _,rfl⟩ le1 (fun q=>?_)
 obtain ⟨i,hi,ht⟩:=q
 simp only at hi ht ⊢
 rcases Nat.lt_or_ge i n with hlt|hge
 ·have hc1:decide ((i:Int)<(s.length:Int))=true:=decide_eq_true U
  have hc2:decide ((i:Int)<(H.length:Int))=true:=decide_eq_true U
  have hwi:=zn (i:=i) U
  obtain ⟨p1,p2⟩:=zuz (s:=s) (h:=H) (i:=i) U U ht
  by_cases he:s.getD i 0=H.getD i 0
  ·have hb:(((s.getD i 0).toNat:Int) !=((H.getD i 0).toNat:Int))=false:=by rw [he];simp
   refine' zc (zq hc1 hc2 hb)
   all_goals first|omega|skip
   exact ⟨⟨i+1,U,p1 he⟩,lew,af⟩
  ·have hb:(((s.getD i 0).toNat:Int) !=((H.getD i 0).toNat:Int))=true:=by
    rw [bne_iff_ne];intro e;apply he;apply UInt8.toNat_inj.mp;omega
   refine' zc (zq hc1 hc2 hb)
   all_goals first|omega|skip
   rw [hV,zcV,if_pos (fun e=>p2 he n hlt (hm.mp e))]
   rfl
 ·obtain rfl:i=n:=by omega
  have hcc:(decide ((i:Int)<(s.length:Int))&&decide ((i:Int)<8))=false:=af
  have hw8:IntKind.i64.wrap 8=8:=ae
  have hw16:IntKind.i64.wrap 16=16:=ae
  rw [zcV,if_neg (fun e=>e (hm.mpr ht))] at hV
  by_cases h16:s.length<16
  ·have hb:decide ((s.length:Int)<16)=true:=decide_eq_true U
   refine' zc (zaB hcc hHl hb hw8 hw16)
   rw [hV,if_pos h16]
   rfl
  ·have hb:decide ((s.length:Int)<16)=false:=decide_eq_false U
   rw [if_neg h16] at hV
   refine' zc (zaB hcc hHl hb hw8 hw16)
   refine zaI 11 1 rfl ?_
   simp only [go_sem,aeq,aeq.aeqF,simprocAttr]
   obtain ⟨A,hA⟩:∃A,A=numAt s 8 4:=⟨_,rfl⟩
   obtain ⟨N,hN⟩:∃N,N=numAt s 12 4:=⟨_,rfl⟩
   rw [← hN,← hA] at hV
   have hNl:N<4294967296:=by rw [hN];exact za1 s 12 4
   refine zk (fun q: { i:Nat // i≤2 } =>⟨[(0,true,.d (.str (s.drop (8+4*q.1)))),(2,true,.d (.int .i64 2)),(11,true,.osl 0 1 q.1 0 q.1),(12,true,.d (.int .i64 q.1))],[(0,.arr 1 ((([(A:Int),(N:Int)]:List Int).take q.1).map u64D))],some []⟩) (fun q=>2 - q.1) ⟨0,ae⟩ le1 (fun q=>?_)
   obtain ⟨j,hj⟩:=q
   have h3:j=0∨j=1∨j=2:=U
   have e0:(([(A:Int),(N:Int)]:List Int).take 0).map u64D= []:=rfl
   have e1:(([(A:Int),(N:Int)]:List Int).take 1).map u64D= [[.int .u64 (A:Int)]]:=rfl
   have e2:(([(A:Int),(N:Int)]:List Int).take 2).map u64D= [[.int .u64 (A:Int)],[.int .u64 (N:Int)]]:=rfl
   have w1:IntKind.i64.wrap 1=1:=ae
   have w2:IntKind.i64.wrap 2=2:=ae
   rcases h3 with rfl|rfl|rfl
   ·have ht4:takeS (s.drop 8) 4=((A:Int),s.drop 12,0):=by rw [zoR _ ar,zqe,List.drop_drop,hA]
    simp only [e0]
    refine' walkW (zj ht4 w1) (za zbQ <| za zp <| zb _)
    all_goals first|(rw [List.length_drop];omega)|skip
    exact ⟨⟨1,ae⟩,by simp only [e1];simp only [AS.le,leT,leH,zf,AsgK,AV.le,AV.leL,AObj.le,inH,idsT,idsH,AV.ids,AV.idsL,AV.idsR,AObj.ids,lk,hget,go_sem,aeq,aeq.aeqF,simprocAttr,w1],ae⟩
   ·have ht4:takeS (s.drop 12) 4=((N:Int),s.drop 16,0):=by rw [zoR _ ar,zqe,List.drop_drop,hN]
    simp only [e1]
    refine' walkW (zj ht4 w2) (za zbQ <| za zp <| zb _)
    all_goals first|(rw [List.length_drop];omega)|skip
    exact ⟨⟨2,ae⟩,by simp only [e2];simp only [AS.le,leT,leH,zf,AsgK,AV.le,AV.leL,AObj.le,inH,idsT,idsH,AV.ids,AV.idsL,AV.idsR,AObj.ids,lk,hget,go_sem,aeq,aeq.aeqF,simprocAttr,w2],ae⟩
   ·obtain ⟨D,hD⟩:∃D,D=s.drop 16:=⟨_,rfl⟩
    have hDl:D.length+16=s.length:=cD
    have hw:IntKind.u64.wrap (D.length:Int)=D.length:=zA U U
    rw [← List.drop_drop,← hD] at hV
    simp only [e2]
    by_cases hb1:4096<N
    ·have hc1:decide ((4096:Int)<(N:Int))=true:=decide_eq_true U
     rw [if_pos hb1] at hV
     refine' zc (zj hc1 w1)
     rw [hV];rfl
    ·have hc1:decide ((4096:Int)<(N:Int))=false:=decide_eq_false U
     rw [if_neg hb1] at hV
     by_cases hb2:s.length<16+N
     ·have hc2:decide ((D.length:Int)<(N:Int))=true:=decide_eq_true U
      rw [if_pos hb2] at hV
      refine' zc (zaB hc1 hc2 hD.symm hw w1)
      rw [hV];rfl
     ·have hc2:decide ((D.length:Int)<(N:Int))=false:=decide_eq_false U
      rw [if_neg hb2] at hV
      refine' zc (zaB hc1 hc2 hD.symm hw w1)
      rw [hV];rfl
open Go Go.Proofs
def rep0 (i:Nat):List (List D):=List.replicate i (cnD cn0)
theorem zuQ (x:Img) (n:Int) (_:True):AC 23 [imgA x,.d (.int .i64 n)] (.tup [srvA (svNew x n).1,.d (.int .i64 (svNew x n).2)]):=by
 obtain ⟨V,hV⟩:∃V,V=svNew x n:=⟨_,rfl⟩
 rw [← hV]
 unfold svNew at hV
 by_cases hb:n<1∨4<n
 ·have hc:(decide (n<1)||decide (4<n))=true:=by simpa using hb
  rw [if_pos hb] at hV
  refine fbod Tryz.func23 Tryz.ntmps23 (fun base=>?_)
  refine' zc hc
  rw [hV];rfl
 ·have hc:(decide (n<1)||decide (4<n))=false:=by simp;omega
  rw [if_neg hb] at hV
  obtain ⟨k,hk⟩:∃k:Nat,n=k:=⟨n.toNat,U⟩
  subst hk
  rw [Int.toNat_natCast] at hV
  refine fbod Tryz.func23 Tryz.ntmps23 (fun base=>?_)
  refine' zc hc
  refine zeO 2 11 8 rfl rfl ?_
  simp only [go_sem,aeq,aeq.aeqF,simprocAttr]
  refine zk (fun q: { i:Nat // i≤k } =>⟨[(1,true,.d (.int .i64 k)),(4,true,.vp 1 0),(6,true,.vp 2 0),(7,true,.d (.int .i64 q.1))],[(3,.arr 8 (rep0 q.1)),(2,.var (imgC x++ [.osl 3 8 q.1 0 q.1])),(1,.var (img0++ [.nils 8]))],some []⟩) (fun q=>k - q.1) ⟨0,Nat.zero_le _⟩ dK (fun q=>?_)
  obtain ⟨i,hi⟩:=q
  simp only [imgC,img0] at hi ⊢
  have hwi:=zn (i:=i) U
  have hll:(rep0 i).length=i:=List.length_replicate ..
  rcases Nat.lt_or_ge i k with hlt|hge
  ·have hcmp:decide ((i:Int)<(k:Int))=true:=decide_eq_true U
   have hsn:rep0 (i+1)=rep0 i++ [[.int .i64 0,.str [],.bool false,.bool false,.sl 1 [],.sl 12 [],.str zjU,.bool false]]:=List.replicate_succ'
   refine' walkW (zj hcmp hll) (za zln <| zb _)
   all_goals first|omega|skip
   exact ⟨⟨i+1,U⟩,dJ,af⟩
  ·obtain rfl:i=k:=by omega
   have hcmp:decide ((i:Int)<(i:Int))=false:=decide_eq_false U
   refine' zc (zj hcmp hll)
   rw [hV,List.take_of_length_le (Nat.le_of_eq hll)]
   rw [rep0]
   simp only [List.map_replicate]
@[go_sem] noncomputable def zdD:Ent Tryz.prog 23:= .m2 zbk (intT .i64) zuQ
end Go.Aw
