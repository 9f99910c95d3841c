/-
 Parts of the proof: lemmas.
-/
import Derived.Test.YtgldbfelccddbaaGreatPart17
set_option maxRecDepth 100000
set_option maxHeartbeats 2000000
set_option linter.unusedSimpArgs false
set_option linter.unusedVariables false
namespace Go.Aw
open Go Go.Proofs
theorem zrw (l:List Cn) (fl:Nat) (hl:l.length≤5000):ACall Tryz.prog 94 fl [.d (.sl 8 (l.map cnD))] [] (fun r h'=>r= .osl fl 8 l.length 0 l.length∧h'= [(fl,.arr 8 (l.map cnD))]):=by
 refine bod Tryz.func94 Tryz.ntmps94 (fun base=>?_)
 refine' zad (zN 2) fx
 ·refine zP noTab (zb _) (fun K hK=>?_);simp only [go_sem,aeq,aeq.aeqF,simprocAttr]
  (first|(refine hK _ ?_;clear hK K)|(clear hK K;refine hK _ ?_;clear hK K)|(clear hK K;clear hK K;refine hK _ ?_;clear hK K)|(clear hK K;clear hK K;clear hK K;refine hK _ ?_;clear hK K)|(clear hK K;clear hK K;clear hK K;clear hK K;refine hK _ ?_;clear hK K))
  refine zaI 2 8 rfl ?_
  have h0:l= []:=List.map_eq_nil_iff.1 (hnb hc)
  subst h0
  refine' zc fx
  all_goals rfl
theorem zrx (l:List Tsk) (fl:Nat) (hl:l.length≤5000):ACall Tryz.prog 95 fl [.d (.sl 12 (l.map tskD))] [] (fun r h'=>r= .osl fl 12 l.length 0 l.length∧h'= [(fl,.arr 12 (l.map tskD))]):=by
 refine bod Tryz.func95 Tryz.ntmps95 (fun base=>?_)
 refine' zad (zN 2) fx
 ·refine zP noTab (zb _) (fun K hK=>?_);simp only [go_sem,aeq,aeq.aeqF,simprocAttr]
  (first|(refine hK _ ?_;clear hK K)|(clear hK K;refine hK _ ?_;clear hK K)|(clear hK K;clear hK K;refine hK _ ?_;clear hK K)|(clear hK K;clear hK K;clear hK K;refine hK _ ?_;clear hK K)|(clear hK K;clear hK K;clear hK K;clear hK K;refine hK _ ?_;clear hK K))
  refine zaI 2 12 rfl ?_
  have h0:l= []:=List.map_eq_nil_iff.1 (hnb hc)
  subst h0
  refine' zc fx
  all_goals rfl
def rowC (o:Cn) (tv:AV):List AV:= [.d (.int .i64 o.n.phase),.d (.str o.n.buf),.d (.bool o.n.brief),.d (.bool o.n.chunks),.d (.sl 1 (o.n.metas.map u32D)),tv,.d (.str o.out),.d (.bool o.gone)]
structure SW where
 x:Img
 k:Nat
 pre:List AV
 o:Cn
 post:List AV
 tv:AV
 ts:List (List D)
def imgC (x:Img):List AV:= [.d (.str x.disk.data),.d (.sl 2 (x.disk.cache.map putD)),.d (.int .i64 x.disk.fuse),.d (.bool x.disk.off),.d (.sl 1 (x.disk.bad.map intD)),.d (.int .i64 x.geom.guest),.d (.int .i64 x.geom.host),.d (.int .u64 x.jour.seq),.d (.int .i64 x.jour.pos),.d (.sl 66 (x.maps.map dmapD)),.d (.bool x.broken)]
def swC (s:SW):List AV:= [.d (.str s.x.disk.data),.d (.sl 2 (s.x.disk.cache.map putD)),.d (.int .i64 s.x.disk.fuse),.d (.bool s.x.disk.off),.d (.sl 1 (s.x.disk.bad.map intD)),.d (.int .i64 s.x.geom.guest),.d (.int .i64 s.x.geom.host),.d (.int .u64 s.x.jour.seq),.d (.int .i64 s.x.jour.pos),.d (.sl 66 (s.x.maps.map dmapD)),.d (.bool s.x.broken),.vsl 22 8 0 s.k,.vp 22 s.pre.length]
attribute [go_sem] swC
abbrev swH (s:SW):AHeap:= [(34,.arr 12 s.ts),(22,.var (s.pre++(rowC s.o s.tv++s.post))),(21,.var (swC s))]
theorem zuu {pre r:List AV} {k:Nat} {d:AV} :(pre++r).getD (pre.length+k) d=r.getD k d:=by
 rw [List.getD_eq_getElem?_getD,List.getD_eq_getElem?_getD,List.getElem?_append_right (Nat.le_add_right _ _),Nat.add_sub_cancel_left]
theorem zqd {pre r:List AV} {k:Nat} :(pre++r).drop (pre.length+k)=r.drop k:=by
 rw [List.drop_append,List.drop_eq_nil_of_le (Nat.le_add_right _ _),List.nil_append,Nat.add_sub_cancel_left]
theorem zuv {pre r:List AV} {k:Nat} {v:AV} :(pre++r).set (pre.length+k) v=pre++r.set k v:=by
 rw [List.set_append_right _ _ (Nat.le_add_right _ _),Nat.add_sub_cancel_left]
theorem zwB {pre r:List AV} {d:AV} :(pre++r).getD pre.length d=r.getD 0 d:=zuu (k:=0)
theorem zuw {pre r:List AV} :(pre++r).drop pre.length=r:=zqd (k:=0)
theorem zwC {pre r:List AV} {v:AV} :(pre++r).set pre.length v=pre++r.set 0 v:=zuv (k:=0)
attribute [go_sem] rowC zuu zwB zqd zuw zuv zwC List.cons_append List.nil_append List.length_append Nat.add_zero
theorem zoL:∀l:List Cn,((l.map cnD).flatten).length=l.length*8
 | []=>rfl
 |c::l=>by rw [List.map_cons,List.flatten_cons,List.length_append,zoL l,List.length_cons];show 8+_=_;omega
theorem zdB:∀l:List D,AV.idsL (l.map AV.d)= []
 | []=>rfl
 |x::l=>by rw [List.map_cons,AV.idsL,zdB l];rfl
theorem zaZ:∀m:Nat,AV.idsL (List.replicate m AV.any)= []
 |0=>rfl
 |m+1=>by rw [List.replicate_succ,AV.idsL,zaZ m];rfl
theorem ziL (v:Srv) (c:Int) (hb:c<0∨(v.conns.length:Int)≤c):ACall Tryz.prog 41 0 [srvA v,.d (.int .i64 c)] [] (fun r _=>r= .tup [.d .nilp,.d (.bool false)]):=by
 have hc:(decide (c<0)||decide ((v.conns.length:Int)≤c))=true:=by simpa using hb
 refine fbod Tryz.func41 Tryz.ntmps41 (fun base=>?_)
 refine' zc hc
theorem zg9 (v:Srv) (c:Nat) (o:Cn) (ho:v.conns[c]?=some o) (hl:v.conns.length≤1000) (ht:o.tasks.length≤1000):ACall Tryz.prog 41 20 [srvA v,.d (.int .i64 c)] [] (fun r h'=>∃m,r= .tup [.vp 21 0,.d (.bool true)]∧h'=swH ⟨v.x,v.conns.length,((v.conns.take c).map cnD).flatten.map .d,o,((v.conns.drop (c+1)).map cnD).flatten.map .d++List.replicate m .any,.osl 34 12 o.tasks.length 0 o.tasks.length,o.tasks.map tskD⟩):=by
 have hlt:c<v.conns.length:=(List.getElem?_eq_some_iff.1 ho).1
 have hc:(decide ((c:Int)<0)||decide ((v.conns.length:Int)≤c))=false:=af
 refine za6 (fun i=>decide (21≤i)) ?_
 refine bod Tryz.func41 Tryz.ntmps41 (fun base=>?_)
 refine' zc hc
 refine ((zrw v.conns 22 U).own rfl rfl ae (by rintro r h' ⟨_,rfl⟩;rfl)).mono ?_
 rintro r h' ⟨h1,⟨rfl,rfl⟩,rfl⟩
 simp only [go_sem,aeq,aeq.aeqF,simprocAttr]
 refine' zad (zN 5) fx
 refine zsz 22 rfl cF cF (show 20≤22 by decide) (fun m=>?_)
 obtain ⟨pre,hpre⟩:∃pre,pre=((v.conns.take c).map cnD).flatten.map AV.d:=⟨_,rfl⟩
 obtain ⟨post,hpost⟩:∃post,post=((v.conns.drop (c+1)).map cnD).flatten.map AV.d++List.replicate m .any:=⟨_,rfl⟩
 have hE:(v.conns.map cnD).flatten.map AV.d++List.replicate m .any=pre++(rowC o (.d (.sl 12 (o.tasks.map tskD)))++post):=by
  rw [hpre,hpost]
  have e:v.conns=v.conns.take c++(o::v.conns.drop (c+1)):=by rw [← zeg ho,List.take_append_drop]
  conv=>lhs;rw [e]
  simp [cnD,rowC]
 have hi1:AV.idsL pre= []:=cH
 have hi2:AV.idsL post= []:=cG
 have hi3:AV.idsL (pre++(rowC o (.d (.sl 12 (o.tasks.map tskD)))++post))= []:=by rw [zg,zg,hi1,hi2];rfl
 simp only [rowC,List.cons_append,List.nil_append] at hi3
 have hpl:c*8=pre.length:=by
  rw [hpre,List.length_map,zoL,List.length_take,Nat.min_eq_left U]
 refine aw_le ⟨[(1,true,.d (.int .i64 c)),(6,true,.vp 21 0)],[(22,.var (pre++(rowC o (.d (.sl 12 (o.tasks.map tskD)))++post))),(21,.var (imgC v.x++ [.vsl 22 8 0 v.conns.length,.d .nilp]))],some []⟩ (by rw [hE];unfold imgC;simp only [AS.le,leT,leH,zf,AsgK,AV.le,AV.leL,AObj.le,inH,idsT,idsH,AV.ids,AV.idsL,AV.idsR,AObj.ids,lk,hget,go_sem,aeq,aeq.aeqF,simprocAttr]<;>and_intros<;>first|rfl|exact AV.leL_refl _|(rw [hi3];exact ⟨rfl,trivial⟩)) ?_
 unfold imgC
 refine' zfQ (ownsL [95]) hpl
 refine ⟨12,o.tasks.map tskD,fun fl=>by rw [List.length_map];exact zrx o.tasks fl U,U,ad,?_⟩
 have htl:(o.tasks.map tskD).length=o.tasks.length:=List.length_map ..
 refine' zc (zE htl @zg hi1 hi2)
 exact ⟨m,by rw [← hpre,← hpost];rfl⟩
structure SwOk (s:SW):Prop where
 p:AV.idsL s.pre= []
 q:AV.idsL s.post= []
 t:s.tv= .osl 34 12 s.o.tasks.length 0 s.o.tasks.length∧s.ts=s.o.tasks.map tskD∨s.tv= .nils 12∧s.o.tasks= []∧s.o.gone=true
 l:s.o.tasks.length≤1000
def swLv (s:SW):SW:= { s with o:=zcp s.o,tv:= .nils 12 }
theorem sw_cl {s:SW} (h:SwOk s):inH (swH s) (idsH (swH s)):=by
 rcases h.t with ⟨e,_⟩|⟨e,_⟩<;>simp [inH,idsH,AObj.ids,AV.idsL,AV.ids,swC,rowC,e,hget,h.p,h.q,zg]
theorem zlm (s:SW):ACall Tryz.prog 44 40 [.vp 21 0] (swH s) (fun r h'=>r= .tup []∧h'=swH (swLv s)):=by
 refine bod Tryz.func44 Tryz.ntmps44 (fun base=>?_)
 refine' zc fx
 rfl
open Go Go.Proofs
abbrev tkH0 (xp:Xp) (s:SW):AHeap:=(61,.var [.d (.int .u64 xp.size),.d (.sl 1 (xp.names.map strD))])::(60,.var [.vp 21 0])::swH s
theorem zoW (xp:Xp) (s:SW):ACall Tryz.prog 100 80 [.vp 21 0] (tkH0 xp s) (fun r h'=>r= .fn (.func 177) [] [.vp 80 0]∧h'=(80,.var [.vp 21 0])::tkH0 xp s):=by
 refine bod Tryz.func100 Tryz.ntmps100 (fun base=>?_)
 refine' zc fx
open Go Go.Proofs
theorem zhd (o:Cn) (ts:List (List D)) (n:Nat):ACall Tryz.prog 60 40 [.agg (rowC o (.osl 23 12 n 0 n))] [(23,.arr 12 ts)] (fun r h'=>r= .agg (rowC (zcp o) (.nils 12))∧h'= [(23,.arr 12 ts)]):=by
 refine za6 (fun i=>decide (i<40)) ?_
 unfold rowC
 refine bod Tryz.func60 Tryz.ntmps60 (fun base=>?_)
 refine' zc fx
 rfl
open Go Go.Proofs
def zO (l:List Cn):List AV:=(l.map cnD).flatten.map AV.d
theorem zfw {l:List Cn} {c:Nat} {o:Cn} (ho:l[c]?=some o):zO l=zO (l.take c)++(rowC o (.d (.sl 12 (o.tasks.map tskD)))++zO (l.drop (c+1))):=by
 have e:l=l.take c++(o::l.drop (c+1)):=by rw [← zeg ho,List.take_append_drop]
 conv=>lhs;rw [e]
 simp [zO,cnD,rowC]
theorem zdE {l:List Cn} :(zO l).length=l.length*8:=by rw [zO,List.length_map,zoL]
theorem zbc {l:List Cn} :AV.idsL (zO l)= []:=zdB _
def rowD (o:Cn):List AV:=rowC o (.d (.sl 12 (o.tasks.map tskD)))
def rowO (o:Cn):List AV:=rowC o (.osl 23 12 o.tasks.length 0 o.tasks.length)
def ownC (l:List Cn) (c:Nat) (o:Cn) (m i:Nat):List AV:=if i≤c then zO l++List.replicate m .any else zO (l.take c)++(rowO o++(zO (l.drop (c+1))++List.replicate m .any))
theorem zuT {l:List Cn} {c i m:Nat} {o q:Cn} (ho:l[c]?=some o) (hi:l[i]?=some q) (hne:i≠c):∃P S,ownC l c o m i=P++(rowD q++S)∧i*8=P.length∧ownC l c o m (i+1)=P++(rowD q++S)∧AV.idsL P=(if i≤c then [] else [23])∧AV.idsL S= []:=by
 have hl:=(List.getElem?_eq_some_iff.1 hi).1
 have hlc:=(List.getElem?_eq_some_iff.1 ho).1
 rcases Nat.lt_or_gt_of_ne hne with h|h
 ·refine ⟨zO (l.take i),zO (l.drop (i+1))++List.replicate m .any,?_,bQ,?_,by rw [if_pos U];exact zbc,by rw [zg,zbc,zaZ];rfl⟩
  ·rw [ownC,if_pos U,zfw hi,rowD]
   simp only [List.append_assoc]
  ·rw [ownC,if_pos U,zfw hi,rowD]
   simp only [List.append_assoc]
 ·have hq:(l.drop (c+1))[i - c - 1]?=some q:=by rw [List.getElem?_drop,show c+1+(i - c - 1)=i by omega];exact hi
  refine ⟨zO (l.take c)++(rowO o++zO ((l.drop (c+1)).take (i - c - 1))),zO ((l.drop (c+1)).drop (i - c - 1+1))++List.replicate m .any,?_,?_,?_,?_,by rw [zg,zbc,zaZ];rfl⟩
  ·rw [ownC,if_neg U,zfw hq,rowD]
   simp only [List.append_assoc]
  ·rw [List.length_append,List.length_append,zdE,zdE,List.length_take,List.length_take,List.length_drop]
   show _=_+(8+_)
   omega
  ·rw [ownC,if_neg U,zfw hq,rowD]
   simp only [List.append_assoc]
  ·rw [if_neg U,zg,zg,zbc,zbc]
   rfl
theorem zo6 (v:Srv) (c:Nat) (o:Cn) (ho:v.conns[c]?=some o) (hl:v.conns.length≤1000) (ht:∀o∈v.conns,o.tasks.length≤1000):ACall Tryz.prog 57 20 [srvA v] [] (fun r h'=>∃m,r= .agg (imgC v.x++ [.vsl 22 8 0 v.conns.length])∧h'= [(23,.arr 12 (o.tasks.map tskD)),(22,.var (zO (v.conns.take c)++(rowO o++(zO (v.conns.drop (c+1))++List.replicate m .any))))]):=by
 have hlt:c<v.conns.length:=(List.getElem?_eq_some_iff.1 ho).1
 refine za6 (fun i=>decide (22≤i)) ?_
 refine bod Tryz.func57 Tryz.ntmps57 (fun base=>?_)
 refine' zad (zN 2) fx
 refine zaI 3 8 rfl ?_
 simp only [go_sem,aeq,aeq.aeqF,simprocAttr]
 refine' zad (zN 3) fx
 refine zsz 22 rfl cF cF (show 20≤22 by decide) (fun m=>?_)
 refine aw_le ⟨[(1,true,.vp 20 0),(2,true,.vp 21 0)],[(22,.var (ownC v.conns c o m 0)),(21,.var (img0++ [.nils 8])),(20,.var (imgC v.x++ [.vsl 22 8 0 v.conns.length]))],some []⟩ (by rw [ownC,if_pos (Nat.zero_le _),zO];unfold imgC img0;simp only [AS.le,leT,leH,zf,AsgK,AV.le,AV.leL,AObj.le,inH,idsT,idsH,AV.ids,AV.idsL,AV.idsR,AObj.ids,lk,hget,go_sem,aeq,aeq.aeqF,simprocAttr]<;>and_intros<;>first|rfl|exact AV.leL_refl _|(rw [zg,zdB,zaZ];exact ⟨rfl,trivial⟩)) ?_
 unfold img0 imgC
 refine' zc fx
 refine zk (fun q: { i:Nat // i≤v.conns.length } =>⟨[(1,true,.vp 20 0),(2,true,.vp 21 0),(4,true,.d (.int .i64 q.1))],(if q.1≤c then [] else [(23,.arr 12 (o.tasks.map tskD))])++ [(22,.var (ownC v.conns c o m q.1)),(21,.var (img0++ [.nils 8])),(20,.var (imgC v.x++ [.vsl 22 8 0 v.conns.length]))],some []⟩) (fun q=>v.conns.length - q.1) ⟨0,Nat.zero_le _⟩ (by simp only [if_pos (Nat.zero_le c)];unfold imgC img0;simp only [AS.le,leT,leH,zf,AsgK,AV.le,AV.leL,AObj.le,inH,idsT,idsH,AV.ids,AV.idsL,AV.idsR,AObj.ids,lk,hget,go_sem,aeq,aeq.aeqF,simprocAttr]<;>and_intros<;>first|rfl|exact AV.leL_refl _|(rw [ownC,if_pos (Nat.zero_le _),zg,zbc,zaZ];exact ⟨rfl,trivial⟩)) (fun q=>?_)
 obtain ⟨i,hi⟩:=q
 simp only at hi ⊢
 have hwi:=zn (i:=i) U
 rcases Nat.lt_or_ge i v.conns.length with hlt2|hge
 ·obtain ⟨w,hw⟩:∃w,v.conns[i]?=some w:=⟨_,List.getElem?_eq_getElem hlt2⟩
  have hcmp:decide ((i:Int)<(v.conns.length:Int))=true:=decide_eq_true U
  have htl:=ht w (List.mem_of_getElem? hw)
  rcases Nat.lt_trichotomy i c with hic|rfl|hic
  ·obtain ⟨P,S,hE,hPl,hE2,hp,hs⟩:=zuT (m:=m) ho hw U
   rw [if_pos U] at hp
   rw [if_pos U,hE]
   unfold imgC img0 rowD
   refine' zad (zN 7) (zj hcmp hPl)
   refine zaI 5 12 rfl ?_
   simp only [go_sem,aeq,aeq.aeqF,simprocAttr]
   refine' zad (zN 5) (zj hPl @List.length_map.{0,0})
   refine zbh 23 rfl ?_
   have hP:AV.trL (onI 23 (AV.frzd 23 (.arr 12 (w.tasks.map tskD)))) P=P:=zct P (by rw [hp];simp)
   have hS:AV.trL (onI 23 (AV.frzd 23 (.arr 12 (w.tasks.map tskD)))) S=S:=zct S (by rw [hs];simp)
   simp only [go_sem,aeq,aeq.aeqF,simprocAttr,hP,hS]
   refine' zc fx
   exact ⟨⟨i+1,U⟩,by simp only [if_pos (show i+1≤c by omega),hE2];unfold rowD;simp only [AS.le,leT,leH,zf,AsgK,AV.le,AV.leL,AObj.le,inH,idsT,idsH,AV.ids,AV.idsL,AV.idsR,AObj.ids,lk,hget,go_sem,aeq,aeq.aeqF,simprocAttr,hwi,zg,hp,hs]<;>and_intros<;>first|rfl|exact AV.leL_refl _,af⟩
  ·rw [ho] at hw
   cases hw
   have hPl:i*8=(zO (v.conns.take i)).length:=bQ
   have hE:ownC v.conns i o m i=zO (v.conns.take i)++(rowD o++(zO (v.conns.drop (i+1))++List.replicate m .any)):=by
    rw [ownC,if_pos (Nat.le_refl _),zfw ho,rowD]
    simp only [List.append_assoc]
   have hE2:ownC v.conns i o m (i+1)=zO (v.conns.take i)++(rowO o++(zO (v.conns.drop (i+1))++List.replicate m .any)):=by rw [ownC,if_neg U]
   rw [if_pos (Nat.le_refl _),hE]
   unfold imgC img0 rowD
   refine' zad (zN 7) (zj hcmp hPl)
   refine zaI 5 12 rfl ?_
   simp only [go_sem,aeq,aeq.aeqF,simprocAttr]
   refine' zc (zj hPl @List.length_map.{0,0})
   exact ⟨⟨i+1,U⟩,by simp only [if_neg (show ¬i+1≤i by omega),hE2];unfold rowO;simp only [AS.le,leT,leH,zf,AsgK,AV.le,AV.leL,AObj.le,inH,idsT,idsH,AV.ids,AV.idsL,AV.idsR,AObj.ids,lk,hget,go_sem,aeq,aeq.aeqF,simprocAttr,hwi,zg,zbc,zaZ]<;>and_intros<;>first|rfl|exact AV.leL_refl _,af⟩
  ·obtain ⟨P,S,hE,hPl,hE2,hp,hs⟩:=zuT (m:=m) ho hw U
   rw [if_neg U] at hp
   rw [if_neg U,hE]
   unfold imgC img0 rowD
   refine' zad (zN 7) (zj hcmp hPl)
   refine zaI 5 12 rfl ?_
   simp only [go_sem,aeq,aeq.aeqF,simprocAttr]
   refine' zad (zN 5) (zj hPl @List.length_map.{0,0})
   refine zbh 24 rfl ?_
   have hP:AV.trL (onI 24 (AV.frzd 24 (.arr 12 (w.tasks.map tskD)))) P=P:=zct P (by rw [hp];simp)
   have hS:AV.trL (onI 24 (AV.frzd 24 (.arr 12 (w.tasks.map tskD)))) S=S:=zct S (by rw [hs];simp)
   simp only [go_sem,aeq,aeq.aeqF,simprocAttr,hP,hS]
   refine' zc fx
   exact ⟨⟨i+1,U⟩,by simp only [if_neg (show ¬i+1≤c by omega),hE2];unfold rowD;simp only [AS.le,leT,leH,zf,AsgK,AV.le,AV.leL,AObj.le,inH,idsT,idsH,AV.ids,AV.idsL,AV.idsR,AObj.ids,lk,hget,go_sem,aeq,aeq.aeqF,simprocAttr,hwi,zg,hp,hs]<;>and_intros<;>first|rfl|exact AV.leL_refl _,af⟩
 ·have hcmp:decide ((i:Int)<(v.conns.length:Int))=false:=decide_eq_false U
  rw [if_neg U,ownC,if_neg U]
  unfold imgC img0 rowO
  refine' zc hcmp
  ·simp [AV.idsL,AV.ids,zg,zbc,zaZ]
  ·exact ⟨m,rfl⟩
open Go Go.Proofs
theorem zlA:∀ {a a' b b':List AV},AV.leL a a'→AV.leL b b'→AV.leL (a++b) (a'++b')
 | [],[],_,_,_,h=>h
 | [],_::_,_,_,h,_=>by simp only [AV.leL] at h;cases h
 |_::_,[],_,_,h,_=>by simp only [AV.leL] at h
 |x::a,y::a',b,b',h,h2=>by
  simp only [AV.leL] at h
  simp only [List.cons_append,AV.leL]
  exact ⟨h.1,zlA h.2 h2⟩
theorem znl {l:List Cn} {k:Nat} {o:Cn} (hk:k<l.length):zO (l.set k o)=zO (l.take k)++(rowD o++zO (l.drop (k+1))):=by
 have h:(l.set k o)[k]?=some o:=by rw [List.getElem?_set_self hk]
 rw [zfw h,List.take_set_of_le (Nat.le_refl _),List.drop_set_of_lt U]
 rfl
theorem zlB {cx:Cx} {c:Code} {Q:Exit→AS→Prop} {s:SW} {l:List Cn} {k m a b d:Nat} {x:D} (hs:SwOk s) (hk:k<l.length) (hlen:s.k=l.length) (hpre:s.pre=zO (l.take k)) (hpost:s.post=zO (l.drop (k+1))++List.replicate m .any)
  (hab:a≠b) (had:a≠d) (hbd:b≠d)
  (h:AW cx c Q ⟨[(a,true,.vp 1 0),(b,true,.vp 21 0),(d,true,.d x)],[(21,.var (imgC s.x++ [.d (.sl 8 ((l.set k s.o).map cnD)),.any])),(1,.var (img0++ [.nils 8]))],some []⟩):
  AW cx c Q ⟨[(a,true,.vp 1 0),(b,true,.vp 21 0),(d,true,.d x)],swH s++ [(1,.var (img0++ [.nils 8]))],some []⟩:=by
 have hP:∀f,AV.trL f s.pre=s.pre:=fun f=>by rw [hpre,zO];exact znk _
 have hS:∀f,AV.trL f s.post=s.post:=fun f=>by rw [hpost,zly,zO,znk,zlz]
 have h2:AW cx c Q ⟨[(a,true,.vp 1 0),(b,true,.vp 21 0),(d,true,.d x)],[(22,.var (((l.set k s.o).map cnD).flatten.map .d++List.replicate m .any)),(21,.var (swC s)),(1,.var (img0++ [.nils 8]))],some []⟩:=by
  refine zps 22 8 _ rfl eu ?_
  unfold img0
  simp only [go_sem,aeq,aeq.aeqF,simprocAttr]
  rw [if_pos (by rw [List.length_set];exact hlen)]
  exact h
 have hc:((l.set k s.o).map cnD).flatten.map AV.d++List.replicate m .any=s.pre++(rowD s.o++s.post):=by
  rw [hpre,hpost]
  show zO (l.set k s.o)++_=_
  rw [znl hk]
  simp only [List.append_assoc]
 rw [hc] at h2
 rcases hs.t with ⟨e1,e2⟩|⟨e1,e2,_⟩
 ·simp only [swH,rowC,e1,e2]
  refine zbh 34 rfl ?_
  simp only [go_sem,aeq,aeq.aeqF,simprocAttr,hP,hS,List.length_map,List.take_of_length_le]
  exact h2
 ·simp only [swH,rowC,e1]
  refine aw_le _ ?_ h2
  unfold rowD
  simp only [AS.le,leT,leH,zf,AsgK,AV.le,AV.leL,AObj.le,inH,idsT,idsH,AV.ids,AV.idsL,AV.idsR,AObj.ids,lk,hget,go_sem,aeq,aeq.aeqF,simprocAttr,hab,had,hbd,rowC,e2,swC,img0]
  and_intros<;>first|rfl|(refine zlA (AV.leL_refl _) ?_;simp [AV.leL,AV.le,AV.leL_refl])|exact AV.leL_refl _|simp [inH,AV.idsL,AV.ids,hget,hs.p,hs.q,zg]
end Go.Aw
