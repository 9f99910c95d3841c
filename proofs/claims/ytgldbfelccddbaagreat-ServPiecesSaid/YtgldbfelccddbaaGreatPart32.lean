/-
 Parts of the proof: lemmas.
-/
import Derived.Test.YtgldbfelccddbaaGreatPart29
import Derived.Test.YtgldbfelccddbaaGreatPart26
import Derived.Test.YtgldbfelccddbaaGreatPart24
import Derived.Test.YtgldbfelccddbaaGreatPart27
set_option maxRecDepth 100000
set_option maxHeartbeats 2000000
set_option linter.unusedSimpArgs false
set_option linter.unusedVariables false
namespace Go.Aw
open Go Go.Proofs
theorem zm2 (s:Txt) (hs:s.length≤4611686018427387904):ACall Tryz.prog 258 0 [.d (.str s),.d (.str [73,72,65,86,69,79,80,84]),.d (.int .i64 2)] [] (fun r _=>r= .tup [.d (.sl 1 ((zcV s).1.map u64D)),.d (.str (zcV s).2.1),.d (.str (zcV s).2.2.1),.d (.int .i64 (zcV s).2.2.2)]):=by
 exact zoS s hs
@[go_sem] noncomputable def zfE:Ent Tryz.prog 258:= .ofL (consL strT (consL (zbG (.d (.str [73,72,65,86,69,79,80,84]))) (consL (zbG (.d (.int .i64 2))) nilL))) (fun (s,_,_,_)=>s.length≤4611686018427387904) (fun (s,_,_,_)=> .tup [.d (.sl 1 ((zcV s).1.map u64D)),.d (.str (zcV s).2.1),.d (.str (zcV s).2.2.1),.d (.int .i64 (zcV s).2.2.2)]) (fun (s,_,_,_) hp=>⟨rfl,zm2 s hp⟩)
theorem zrA (s:Txt) (hs:s.length≤4611686018427387904):AC 192 [.d (.str s)] (.tup [.agg [.d (.int .u32 (optRd s).1.1),.d (.str (optRd s).1.2)],.d (.str (optRd s).2.1),.d (.int .i64 (optRd s).2.2)]):=by
 obtain ⟨T,hT⟩:∃T,T=zcV s:=⟨_,rfl⟩
 obtain ⟨V,hV⟩:∃V,V=optRd s:=⟨_,rfl⟩
 have hTV:(T.2.2.2≠0∧V=((0,[]),[],T.2.2.2))∨(∃A N:Nat,A<4294967296∧T=([(A:Int),(N:Int)],T.2.1,T.2.2.1,0)∧V=(((A:Int),T.2.1),T.2.2.1,0)):=by
  unfold zcV at hT
  unfold optRd at hV
  split at hT
  ·rename_i h1
   rw [if_pos h1] at hV
   exact .inl cz
  ·rename_i h1
   rw [if_neg h1] at hV
   split at hT
   ·rename_i h2
    rw [if_pos h2] at hV
    exact .inl cz
   ·rename_i h2
    rw [if_neg h2] at hV
    split at hT
    ·rename_i h3
     rw [if_pos h3] at hV
     exact .inl cz
    ·rename_i h3
     rw [if_neg h3] at hV
     split at hT
     ·rename_i h4
      rw [if_pos h4] at hV
      exact .inl cz
     ·rename_i h4
      rw [if_neg h4] at hV
      exact .inr ⟨_,_,za1 s 8 4,by rw [hT],by rw [hT];exact hV⟩
 rw [← hV]
 refine fbod Tryz.func192 Tryz.ntmps192 (fun base=>?_)
 rcases hTV with ⟨he,hv⟩|⟨A,N,hA,ht,hv⟩
 ·have hb:(T.2.2.2 !=0)=true:=by simpa using he
  refine' walkW (zj hT.symm hb) (za zfE <| zb _)
  rw [hv]
 ·have hb:(T.2.2.2 !=0)=false:=by rw [ht];rfl
  have hT1:T.1= [(A:Int),(N:Int)]:=by rw [ht]
  have hw:IntKind.u32.wrap (A:Int)=A:=zbT U U
  have hg:([(A:Int),(N:Int)].map u64D)= [[.int .u64 (A:Int)],[.int .u64 (N:Int)]]:=rfl
  refine' walkW (zaB hT.symm hb hT1 hg hw) (za zfE <| zb _)
  rw [hv]
@[go_sem] noncomputable def zck:Ent Tryz.prog 192:= .m1 strT zrA
theorem zgy (s:Txt) (i k:Nat) (h1:1≤k) (h8:k≤8) (h:i+k≤s.length):takeS (s.drop i) (k:Int)=(((numAt s i k:Nat):Int),s.drop (i+k),0):=by
 rw [takeS,if_neg U,if_neg ar,Int.toNat_natCast,List.drop_drop];rfl
theorem zrB (s:Txt) (hs:s.length≤9223372036854775807):AC 119 [.d (.str s)] (.tup [rqA (reqRd s).1,.d (.str (reqRd s).2.1),.d (.int .i64 (reqRd s).2.2)]):=by
 obtain ⟨V,hV⟩:∃V,V=reqRd s:=⟨_,rfl⟩
 rw [← hV]
 obtain ⟨n,hn⟩:∃n,n=min 4 s.length:=⟨_,rfl⟩
 obtain ⟨H,hH⟩:∃H,H=reqHd:=⟨_,rfl⟩
 have hHl:H.length=4:=by rw [hH];rfl
 have hm:s.take 4=reqHd.take s.length↔s.take n=H.take n:=dW
 refine fbod Tryz.func119 Tryz.ntmps119 (fun base=>?_)
 refine' zc fx
 refine zk (fun q: { i:Nat // i≤n∧s.take i=H.take i } =>⟨[(0,true,.d (.str s)),(2,true,.vp 0 0),(5,true,.d (.int .i64 q.1))],[(0,.var [.d (.int .i64 0),.d (.int .i64 0),.d (.int .u64 0),.d (.int .u64 0),.d (.int .u32 0),.d (.str [])])],some []⟩) (fun q=>n - q.1) ⟨0,Nat.zero_le _,rfl⟩ le1 (fun q=>?_)
 obtain ⟨i,hi,ht⟩:=q
 simp only at hi ht ⊢
 rcases Nat.lt_or_ge i n with hlt|hge
 ·have hc1:decide ((i:Int)<(s.length:Int))=true:=decide_eq_true U
  have hc2:decide ((i:Int)<4)=true:=decide_eq_true U
  have hwi:=zn (i:=i) U
  obtain ⟨p1,p2⟩:=zuz (s:=s) (h:=H) (i:=i) U U ht
  have hHe:([37,96,149,19]:Txt)=H:=hH.symm
  by_cases he:s.getD i 0=H.getD i 0
  ·have hb:(((s.getD i 0).toNat:Int) !=((H.getD i 0).toNat:Int))=false:=by rw [he];simp
   refine' zc (zaB hc1 hc2 hHe hHl hb)
   all_goals first|omega|skip
   exact ⟨⟨i+1,U,p1 he⟩,lew,af⟩
  ·have hb:(((s.getD i 0).toNat:Int) !=((H.getD i 0).toNat:Int))=true:=by
    rw [bne_iff_ne];intro e;apply he;apply UInt8.toNat_inj.mp;omega
   refine' zc (zaB hc1 hc2 hHe hHl hb)
   all_goals first|omega|skip
   rw [hV,reqRd,if_pos (fun e=>p2 he n hlt (hm.mp e))]
   rfl
 ·obtain rfl:i=n:=by omega
  have hcc:(decide ((i:Int)<(s.length:Int))&&decide ((i:Int)<4))=false:=af
  rw [reqRd,if_neg (fun e=>e (hm.mpr ht))] at hV
  by_cases h28:s.length<28
  ·have hb:decide ((s.length:Int)<28)=true:=decide_eq_true U
   rw [if_pos h28] at hV
   refine' zc (zj hcc hb)
   rw [hV]
   rfl
  ·have hb:decide ((s.length:Int)<28)=false:=decide_eq_false U
   rw [if_neg h28] at hV
   have t1:takeS (s.drop 4) 2=(((numAt s 4 2:Nat):Int),s.drop 6,0):=zgy s 4 2 ae ae U
   have t2:takeS (s.drop 6) 2=(((numAt s 6 2:Nat):Int),s.drop 8,0):=zgy s 6 2 ae ae U
   have t3:takeS (s.drop 8) 8=(((numAt s 8 8:Nat):Int),s.drop 16,0):=zgy s 8 8 ae ae U
   have t4:takeS (s.drop 16) 8=(((numAt s 16 8:Nat):Int),s.drop 24,0):=zgy s 16 8 ae ae U
   have t5:takeS (s.drop 24) 4=(((numAt s 24 4:Nat):Int),s.drop 28,0):=zgy s 24 4 ae ae U
   have hw:∀i k:Nat,k≤4→IntKind.i64.wrap (numAt s i k:Int)=numAt s i k:=fun i k hk=>by
    have h1:=za1 s i k
    have h2:256 ^ k≤256 ^ 4:=Nat.pow_le_pow_right ae hk
    exact zi U U
   have hw1:=hw 4 2 ae
   have hw2:=hw 6 2 ae
   have hw4:IntKind.u32.wrap (numAt s 24 4:Int)=numAt s 24 4:=by
    have:=za1 s 24 4
    exact zbT U U
   obtain ⟨D,hD⟩:∃D,D=s.drop 28:=⟨_,rfl⟩
   have hDl:D.length+28=s.length:=cD
   have hwD:IntKind.u64.wrap (D.length:Int)=D.length:=zA U U
   have hdl:∀k,(s.drop k).length≤9223372036854775807:=fun k=>ar
   rw [← hD] at t5
   have hdd:s.drop (28+numAt s 24 4)=D.drop (numAt s 24 4):=by rw [hD,List.drop_drop]
   rw [hdd,← hD] at hV
   refine' walkW (zo hcc hb t1 t2 t3 (zo t4 t5 hw1 hw2 hw4 (zj hdl hwD))) (za zp <| zb _)
   ·have h6:numAt s 6 2≠1:=by
     have:=bne_iff_ne.mp hc
     omega
    rw [hV,if_pos h6]
    rfl
   all_goals
    have h6:¬numAt s 6 2≠1:=by
     have:=bne_eq_false_iff_eq.mp (by assumption:((numAt s 6 2:Int) !=1)=false)
     omega
    rw [if_neg h6] at hV
   ·rw [hV,if_pos bb]
    rfl
   ·have h46:=of_decide_eq_false (by assumption:decide (4096<(numAt s 24 4:Int))=false)
    rw [hV,if_neg U,if_pos bb]
    rfl
   ·have:=of_decide_eq_false hc
    omega
   ·have:=of_decide_eq_false hc
    omega
   ·have h46:=of_decide_eq_false (by assumption:decide (4096<(numAt s 24 4:Int))=false)
    have:=of_decide_eq_false hc
    rw [hV,if_neg U,if_neg U]
    rfl
@[go_sem] noncomputable def zcW:Ent Tryz.prog 119:= .m1 strT zrB
open Go Go.Proofs
def tkV (c:Cn):AV:=if c.gone=true then .nils 12 else .osl 23 12 c.tasks.length 0 c.tasks.length
def TkR (c S:Cn) (r:AV) (h':AHeap):Prop:=r= .agg (rowC c (tkV c))∧h'= [(23,.arr 12 (S.tasks.map tskD))]
def cnZ:List AV:= [.d (.int .i64 0),.d (.str []),.d (.bool false),.d (.bool false),.nils 1,.nils 12,.d (.str []),.d (.bool false)]
theorem zr6 (x:Img) (c:Cn) (ts:List (List D)) (hg:c.gone=true):ACall Tryz.prog 61 40 [imgA x,.agg (rowC c (.nils 12))] [(23,.arr 12 ts)] (fun r h'=>r= .agg (rowC c (.nils 12))∧h'= [(23,.arr 12 ts)]):=by
 refine za6 (fun i=>decide (i<40)) ?_
 unfold rowC
 refine bod Tryz.func61 Tryz.ntmps61 (fun base=>?_)
 refine' zc hg
 refine zk (fun _:Unit=>⟨[(2,true,.vp 40 0),(3,true,.vp 41 0),(4,true,.vp 42 0)],[(42,.var cnZ),(41,.var (rowC c (.nils 12))),(40,.var (imgC x)),(23,.arr 12 ts)],some []⟩) (fun _=>0) () dI (fun _=>?_)
 unfold imgC cnZ
 cases hp:(c.n.phase==2)<;>refine' zc (zj hp hg)
 all_goals rfl
theorem zr7 (x:Img) (c:Cn) (ts:List (List D)) (n:Nat) (hg:c.gone=true):ACall Tryz.prog 61 40 [imgA x,.agg (rowC c (.osl 23 12 n 0 n))] [(23,.arr 12 ts)] (fun r h'=>r= .agg (rowC c (.osl 23 12 n 0 n))∧h'= [(23,.arr 12 ts)]):=by
 refine za6 (fun i=>decide (i<40)) ?_
 unfold rowC
 refine bod Tryz.func61 Tryz.ntmps61 (fun base=>?_)
 refine' zc hg
 refine zk (fun _:Unit=>⟨[(2,true,.vp 40 0),(3,true,.vp 41 0),(4,true,.vp 42 0)],[(42,.var cnZ),(41,.var (rowC c (.osl 23 12 n 0 n))),(40,.var (imgC x)),(23,.arr 12 ts)],some []⟩) (fun _=>0) () dI (fun _=>?_)
 unfold imgC cnZ
 cases hp:(c.n.phase==2)<;>refine' zc (zj hp hg)
 all_goals rfl
theorem zr8 (x:Img) (c:Cn) {L M:Nat} (hx:XOk x) (hc:CnOk L x c) (hL:L≤9223372036854775806) (hco:OutOk M c) (hM:M≤9223372036854770000) (hg:c.gone=false):ACall Tryz.prog 61 40 [imgA x,.agg (rowC c (.osl 23 12 c.tasks.length 0 c.tasks.length))] [(23,.arr 12 (c.tasks.map tskD))] (fun r h'=>TkR (zal (128*x.geom.guest) c) (zfH (128*x.geom.guest) (c.n.buf.length+1) c) r h'):=by
 refine za6 (fun i=>decide (i<40)) ?_
 obtain ⟨V,hV⟩:∃V,V=zal (128*x.geom.guest) c:=⟨_,rfl⟩
 rw [← hV]
 obtain ⟨S,hS⟩:∃S,S=zfH (128*x.geom.guest) (c.n.buf.length+1) c:=⟨_,rfl⟩
 rw [← hS]
 have hxi:=hx.img.ok
 have hxg0:=hx.g0
 have hxg1:=hx.g1
 have hxm:=hx.maps
 unfold rowC
 refine bod Tryz.func61 Tryz.ntmps61 (fun base=>?_)
 refine' zc fx
 refine zk (fun q: { p:Cn×Nat // CnOk L x p.1∧OutOk M p.1∧p.1.n.buf.length+1≤p.2∧V=zaV (128*x.geom.guest) p.2 p.1∧S=zfH (128*x.geom.guest) p.2 p.1∧p.1.gone=false } =>⟨[(2,true,.vp 40 0),(3,true,.vp 41 0),(4,true,.vp 42 0)],[(42,.var cnZ),(41,.var (rowC q.1.1 (.osl 23 12 q.1.1.tasks.length 0 q.1.1.tasks.length))),(40,.var (imgC x)),(23,.arr 12 (q.1.1.tasks.map tskD))],some []⟩) (fun q=>q.1.2) ⟨(c,c.n.buf.length+1),hc,hco,Nat.le_refl _,hV,hS,hg⟩ (by unfold imgC cnZ;simp only [AS.le,leT,leH,zf,AsgK,AV.le,AV.leL,AObj.le,inH,idsT,idsH,AV.ids,AV.idsL,AV.idsR,AObj.ids,lk,hget,go_sem,aeq,aeq.aeqF,simprocAttr]<;>and_intros<;>rfl) (fun q=>?_)
 obtain ⟨⟨o,m⟩,ho,hou,hm,hVo,hSo,hog⟩:=q
 simp only [imgC,cnZ] at ho hou hm hVo hSo hog ⊢
 have hgn:(!o.gone)=true:=by rw [hog];rfl
 by_cases hmo:zcX o
 ·have hph:(o.n.phase==2)=true:=by rw [hmo.1];rfl
  have htl:decide ((o.tasks.length:Int)<8)=true:=decide_eq_true (by have:=hmo.2.2;omega)
  have hbl:o.n.buf.length≤9223372036854775807:=by have:=ho.buf;omega
  obtain ⟨m,rfl⟩:∃m',m=m'+1:=⟨m - 1,U⟩
  rw [zfZ hmo] at hVo
  rw [zfH] at hSo
  have hqo:=zlv hbl
  have hms:=ho.ms.1
  by_cases h22:(reqRd o.n.buf).2.2=22
  ·rw [if_neg U,cnNx,if_pos h22] at hVo
   have e22:((reqRd o.n.buf).2.2==22)=true:=by rw [h22];rfl
   refine' walkW (zE hph hgn htl e22) (za zcW <| za zbD <| za zcb <| za zai <| za zdA <| zb _)
   rw [if_neg (fun h=>h.2 (.inl U))] at hSo
   rw [hVo,hSo]
   exact ⟨da,rfl⟩
  ·have e22:((reqRd o.n.buf).2.2==22)=false:=by simpa using h22
   by_cases h0:(reqRd o.n.buf).2.2=0
   ·have e0:((reqRd o.n.buf).2.2 !=0)=false:=by rw [h0];rfl
    obtain ⟨k,hk⟩:∃k,k=zau (reqRd o.n.buf).1 (128*x.geom.guest) o.n.chunks o.n.metas:=⟨_,rfl⟩
    have hkr:=ziR (q:=(reqRd o.n.buf).1) (s:=128*x.geom.guest) (ch:=o.n.chunks) (ms:=o.n.metas)
    rw [← hk] at hkr
    have hb:=zlr (size:=128*x.geom.guest) h0
    have hok:=zo5 hx ho U hmo
    rw [if_pos h0] at hVo
    by_cases hd:(reqRd o.n.buf).1.kind=2∧k=0
    ·have e2:((reqRd o.n.buf).1.kind==2)=true:=by rw [hd.1];rfl
     have ek:(k==0)=true:=by rw [hd.2];rfl
     rw [cnNx,if_neg h22,if_pos (.inr ⟨hd.1,by rw [← hk];exact hd.2⟩),zbz rfl] at hVo
     refine' walkW (zo hph hgn htl e22 e0 (zq e2 hk.symm ek)) (za zcW <| za zbD <| za zcb <| za zai <| za zdA <| zb _)
     refine (zb4 (zhd o (o.tasks.map tskD) o.tasks.length) rfl ⟨rfl,trivial⟩ trivial ⟨rfl,trivial⟩ rfl).mono ?_
     rintro r h' ⟨rfl,rfl⟩
     simp only [go_sem,aeq,aeq.aeqF,simprocAttr,rowC,hup]
     refine' zc fx
     rw [if_neg (fun h=>h.2 (.inr ⟨hd.1,by rw [← hk];exact hd.2⟩))] at hSo
     rw [hVo,hSo]
     exact ⟨rfl,rfl⟩
    ·have hn:cnNx (128*x.geom.guest) o=cnOne (128*x.geom.guest) o:=by
      rw [cnNx,if_neg h22,if_neg]
      rintro (h|h)
      ·exact h h0
      ·exact hd ⟨h.1,by rw [hk];exact h.2⟩
     have hout:=zhV (size:=128*x.geom.guest) hou
     have htr:=zew (reqRd o.n.buf).1 k o.n.chunks
     have hol:o.out.length≤M:=by unfold OutOk at hou;omega
     rw [hn] at hVo hb hok hout
     rw [if_pos ⟨hmo,fun h=>h.elim (fun h=>h h0) (fun h=>hd ⟨h.1,by rw [hk];exact h.2⟩)⟩] at hSo
     by_cases hkz:k=0
     ·have e2:((reqRd o.n.buf).1.kind==2)=false:=by simpa using fun e=>hd ⟨e,hkz⟩
      have ek:(k !=0)=false:=by rw [hkz];rfl
      have hone:cnOne (128*x.geom.guest) o= { o with n:= { o.n with buf:=(reqRd o.n.buf).2.1 },tasks:=o.tasks++ [tnew (reqRd o.n.buf).1] } :=by rw [cnOne,if_neg (by rw [← hk];omega)]
      refine' walkW (zo hph hgn htl e22 e0 (zE e2 hk.symm ek @List.length_map.{0,0})) (za zcW <| za zbD <| za zcb <| za zai <| za zdA <| zb _)
      exact ⟨⟨(cnOne (128*x.geom.guest) o,m),hok,hout,au,hVo,hSo,by rw [zea];exact hog⟩,by simp only [hone,List.map_append,List.length_append,List.length_singleton];simp only [AS.le,leT,leH,zf,AsgK,AV.le,AV.leL,AObj.le,inH,idsT,idsH,AV.ids,AV.idsL,AV.idsR,AObj.ids,lk,hget,go_sem,aeq,aeq.aeqF,simprocAttr]<;>and_intros<;>rfl,aa⟩
     ·have ek:(k !=0)=true:=by simpa using hkz
      have ek0:(k==0)=false:=by simpa using hkz
      have hone:cnOne (128*x.geom.guest) o= { o with n:= { o.n with buf:=(reqRd o.n.buf).2.1 },out:=o.out++zb8 (reqRd o.n.buf).1 k o.n.chunks } :=by rw [cnOne,if_pos (by rw [← hk];exact hkz),← hk]
      cases e2:((reqRd o.n.buf).1.kind==2)<;>refine' walkW (zo hph hgn htl e22 e0 (zE e2 hk.symm ek ek0)) (za zcW <| za zbD <| za zcb <| za zai <| za zdA <| zb _)
      all_goals first|omega|exact ⟨⟨(cnOne (128*x.geom.guest) o,m),hok,hout,au,hVo,hSo,by rw [zea];exact hog⟩,by simp only [hone];simp only [AS.le,leT,leH,zf,AsgK,AV.le,AV.leL,AObj.le,inH,idsT,idsH,AV.ids,AV.idsL,AV.idsR,AObj.ids,lk,hget,go_sem,aeq,aeq.aeqF,simprocAttr]<;>and_intros<;>rfl,aa⟩
   ·have e0:((reqRd o.n.buf).2.2 !=0)=true:=by simpa using h0
    rw [if_neg h0,cnNx,if_neg h22,if_pos (.inl h0)] at hVo
    refine' walkW (zaB hph hgn htl e22 e0) (za zcW <| za zbD <| za zcb <| za zai <| za zdA <| zb _)
    refine (zb4 (zhd o (o.tasks.map tskD) o.tasks.length) rfl ⟨rfl,trivial⟩ trivial ⟨rfl,trivial⟩ rfl).mono ?_
    rintro r h' ⟨rfl,rfl⟩
    simp only [go_sem,aeq,aeq.aeqF,simprocAttr,rowC,hup]
    refine' zc fx
    rw [if_neg (fun h=>h.2 (.inl h0))] at hSo
    rw [hVo,hSo]
    exact ⟨rfl,rfl⟩
 ·have hVe:o=V:=by rw [hVo,zbb hmo]
  have hSe:S=o:=by
   rw [hSo]
   cases m with
   |zero=>rfl
   |succ m=>rw [zfH,if_neg (fun h=>hmo h.1)]
  subst hVe
  by_cases hp:o.n.phase=2
  ·have hph:(o.n.phase==2)=true:=by rw [hp];rfl
   have htl:decide ((o.tasks.length:Int)<8)=false:=decide_eq_false (fun e=>hmo ⟨hp,hog,U⟩)
   refine' zc (zq hph hgn htl)
   exact ⟨da,by rw [hSe]⟩
  ·have hph:(o.n.phase==2)=false:=by simpa using hp
   refine' zc hph
   exact ⟨da,by rw [hSe]⟩
end Go.Aw
