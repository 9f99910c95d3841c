/-
  Parts of the proof: DevA, DevB (short names; the readable texts lie in the repo, under wip).
-/
import Derived.Test.YtgkjmbopnaeanaaGreatPart8
set_option maxRecDepth 100000
set_option maxHeartbeats 2000000
set_option linter.unusedSimpArgs false
set_option linter.unusedVariables false
namespace Go.Aw
open Go Go.Proofs
theorem zrJ (d:Disk) (hd:DiskOk d):AC 61 [diskA d] (.d (.int .i64 (dsize d))):=by
 refine bod Tryz.func61 Tryz.ntmps61 (fun base=>?_)
 refine' zc (zvE hd.data)
 rfl
@[go_sem] noncomputable def zbs:Ent Tryz.prog 61:= .m1 zA zrJ
theorem zpM (d:Disk) (at_:Int) (hd:DiskOk d):AC 94 [diskA d,.d (.int .i64 at_)] (.d (.bool (there d at_))):=by
 refine bod Tryz.func94 Tryz.ntmps94 (fun base=>?_)
 refine' walkW fx (za zbs <| zb _)
 rfl
@[go_sem] noncomputable def zbL:Ent Tryz.prog 94:= .m2 zA (intT .i64) zpM
theorem ztT (d:Disk) (at_:Int) (hd:DiskOk d):AC 135 [diskA d,.d (.int .i64 at_)] (.d (.bool (d.bad.contains at_))):=by
 refine bod Tryz.func135 Tryz.ntmps135 (fun base=>?_)
 refine' zc fx
 have hb:=hd.bad
 refine zo (fun q: { i:Nat // i≤d.bad.length∧d.bad.contains at_=(d.bad.drop i).contains at_ } =>⟨[(1,true,.d (.int .i64 at_)),(2,true,.vp 0 0),(5,true,.d (.int .i64 q.1))],[(0,.var [.d (.str d.data),.d (.sl 2 (d.cache.map putD)),.d (.int .i64 d.fuse),.d (.bool d.off),.d (.sl 1 (d.bad.map intD))])],some []⟩) (fun q=>d.bad.length - q.1) ⟨0,Nat.zero_le _,rfl⟩ le1 (fun q=>?_)
 obtain ⟨i,hi,hf⟩:=q
 simp only at hi hf ⊢
 rcases zD intD d.bad i hi with ⟨m,hq,hlt,hcmp,hrow,hdr,htk⟩|⟨hend,hcmp⟩
 ·simp only [intD] at hrow
  have hwi:=zn (i:=i) (by omega)
  rw [hdr,List.contains_cons] at hf
  refine' zc (zk hcmp hrow)
  ·rw [hf,BEq.comm,hc];rfl
  ·rw [BEq.comm,hc,Bool.false_or] at hf
   exact ⟨⟨i+1,by omega,hf⟩,lew,by simp;omega⟩
 ·refine' zc hcmp
  rw [hf,hend,List.drop_length]
  rfl
@[go_sem] noncomputable def zgO:Ent Tryz.prog 135:= .m2 zA (intT .i64) ztT
theorem zpN (d:Disk) (hd:DiskOk d):AC 107 [diskA d] (diskA (burnt d)):=by
 refine fbod Tryz.func107 Tryz.ntmps107 (fun base=>?_)
 have h1:=hd.fuse1
 refine' zc fx
 ·have h0:0<d.fuse:=by simpa using hc
  rw [burnt,if_pos h0,ze (by omega) (by omega)]
 ·have h0:¬0<d.fuse:=by simpa using hc
  rw [burnt,if_neg h0]
@[go_sem] noncomputable def zd5:Ent Tryz.prog 107:= .m1 zA zpN
theorem ztU {l:List PutR} {i:Nat} {q:PutR} {at_:Int} (hq:l[i]?=some q):(l.take (i+1)).reverse.find? (isPut at_)=if q.1=at_ then some q else (l.take i).reverse.find? (isPut at_):=by
 rw [zcz hq,List.reverse_append,List.reverse_singleton,List.singleton_append,List.find?_cons]
 by_cases h:q.1=at_
 ·simp [isPut,h]
 ·have:isPut at_ q=false:=by simp [isPut,h]
  rw [this,if_neg h]
theorem zrK (d:Disk) (at_:Int) (hp:DiskOk d∧there d at_=true):AC 172 [diskA d,.d (.int .i64 at_)] (.d (.str (sees d at_))):=by
 obtain ⟨hd,ht⟩:=hp
 refine bod Tryz.func172 Tryz.ntmps172 (fun base=>?_)
 refine' zc fx
 have hcl:=hd.cache
 have hdl:=hd.data
 have hw0:IntKind.i64.wrap ((d.cache.length:Int) - 1)=(d.cache.length:Int) - 1:=ze (by omega) (by omega)
 refine zo (fun q: { i:Nat // i≤d.cache.length∧d.cache.reverse.find? (isPut at_)=(d.cache.take i).reverse.find? (isPut at_) } =>⟨[(1,true,.d (.int .i64 at_)),(2,true,.vp 0 0),(5,true,.d (.int .i64 ((q.1:Int) - 1)))],[(0,.var [.d (.str d.data),.d (.sl 2 (d.cache.map putD)),.d (.int .i64 d.fuse),.d (.bool d.off),.d (.sl 1 (d.bad.map intD))])],some []⟩) (fun q=>q.1) ⟨d.cache.length,Nat.le_refl _,by rw [zew]⟩ (by simp only [AS.le,leT,leH,zf,AsgK,AV.le,AV.leL,AObj.le,inH,idsT,idsH,AV.ids,AV.idsL,AV.idsR,AObj.ids,lk,hget,go_sem,aeq,aeq.aeqF,simprocAttr,hw0]) (fun q=>?_)
 obtain ⟨i,hi,hf⟩:=q
 simp only at hi hf ⊢
 cases i with
 | zero=>
  have hz:decide ((0:Int)≤((0:Nat):Int) - 1)=false:=by decide
  obtain ⟨ht0,ht1⟩:=there_iff.mp ht
  have hm:IntKind.i64.wrap (at_*64)=at_*64:=ze (by omega) (by omega)
  have hm1:IntKind.i64.wrap (at_+1)=at_+1:=ze (by omega) (by omega)
  have hm2:IntKind.i64.wrap ((at_+1)*64)=(at_+1)*64:=ze (by omega) (by omega)
  have hs:(d.data.take ((at_+1)*64).toNat).drop (at_*64).toNat=sees d at_:=by
   rw [sees,hf,List.take_zero,List.reverse_nil,List.find?_nil,List.drop_take]
   congr 1;omega
  refine' zc (zaH hz hm hm1 hm2 hs)
 | succ i=>
  have hz:decide ((0:Int)≤((i+1:Nat):Int) - 1)=true:=decide_eq_true (by omega)
  have hi1:(((i+1:Nat):Int) - 1)=(i:Int):=by omega
  have hwi:IntKind.i64.wrap ((i:Int) - 1)=(i:Int) - 1:=ze (by omega) (by omega)
  obtain ⟨⟨n,s⟩,hq⟩:=zai (l:=d.cache) (i:=i) (by omega)
  have hrow:=za1 (g:=putD) hq
  simp only [putD] at hrow
  rw [ztU hq] at hf
  refine' zc (zS hz hi1 hrow natC)
  ·have hn:n=at_:=by simpa using hc
   rw [sees,hf,if_pos hn]
  ·have hn:¬n=at_:=by simpa using hc
   rw [if_neg hn] at hf
   exact ⟨⟨i,by omega,hf⟩,lew,by simp⟩
@[go_sem] noncomputable def zf2:Ent Tryz.prog 172:= .m2 zA (intT .i64) zrK
open Go Go.Proofs
theorem zrL (d:Disk) (at_:Int) (hd:DiskOk d):AC 136 [diskA d,.d (.int .i64 at_)] (.tup [.d (.str (dread d at_).1),.d (.int .i64 (dread d at_).2)]):=by
 refine bod Tryz.func136 Tryz.ntmps136 (fun base=>?_)
 refine' walkW fx (za zbL <| za zgO <| za zd5 <| za zf2 <| zb _)
 all_goals simp_all [dread]
@[go_sem] noncomputable def zcj:Ent Tryz.prog 136:= .m2 zA (intT .i64) zrL
theorem za2 (l:List UInt8):(zi l).all zlc=true:=by
 simp [zi,ze2,zlc,List.all_map]
theorem zap (l:List UInt8):bytesOf (zi l)=l:=by
 unfold bytesOf zi
 rw [List.map_map]
 have:((fun r=>UInt8.ofNat (numOf r).toNat) ∘ ze2)=id:=by
  funext b;simp [ze2,numOf]
 rw [this,List.map_id]
theorem zdx (m:Nat):List.replicate m [D.int .u8 0]=zi (List.replicate m 0):=by
 rw [zi,List.map_replicate];rfl
theorem zgl (m:Nat):List.take m (zi (List.replicate m 0))=zi (List.replicate m 0):=by
 exact List.take_of_length_le (by simp [zi])
theorem zhC (m:Nat):(m=(zi (List.replicate m 0)).length)=True:=by
 simp [zi]
theorem ztV (n:Int) (_:True):AC 67 [.d (.int .i64 n)] (.tup [diskA (dnew n).1,.d (.int .i64 (dnew n).2)]):=by
 refine fbod Tryz.func67 Tryz.ntmps67 (fun base=>?_)
 by_cases h:n<1∨1024<n
 ·have hdec:(decide (n<1)||decide (1024<n))=true:=by simpa using h
  refine' zc hdec
  rw [dnew,if_pos h];rfl
 ·have hdec:(decide (n<1)||decide (1024<n))=false:=by simpa using h
  have hm:IntKind.i64.wrap (n*64)=n*64:=ze (by omega) (by omega)
  refine' zc (zq hdec hm @zdx @zgl @zhC @if_true.{1})
  ·exact za2 _
  ·rw [dnew,if_neg h,zap];rfl
@[go_sem] noncomputable def zpO:Ent Tryz.prog 67:= .m1 (intT .i64) ztV
theorem zpP (d:Disk) (at_:Int) (s:Txt) (hd:DiskOk d):AC 105 [diskA d,.d (.int .i64 at_),.d (.str s)] (.tup [diskA (zU d at_ s).1,.d (.int .i64 (zU d at_ s).2)]):=by
 refine fbod Tryz.func105 Tryz.ntmps105 (fun base=>?_)
 refine' zh6 (zbh 17) fx (za zbL <| za zgO <| za zd5 <| za zf2 <| zb _)
 all_goals first|(simp_all [zU];done)|(simp_all;omega)|skip
 have hk:DiskOk { d with cache:=d.cache++ [(at_,s)] } :=⟨hd.data,by simp_all;omega,hd.bad,hd.fuse0,hd.fuse1⟩
 have hr:d.cache.map putD++ [[.int .i64 at_,.str s]]=(d.cache++ [(at_,s)]).map putD:=by simp [putD]
 have hl:(d.cache.length+1=(d.cache++ [(at_,s)]).length)=True:=by simp
 have htk:List.take (d.cache.length+1) ((d.cache++ [(at_,s)]).map putD)=(d.cache++ [(at_,s)]).map putD:=List.take_of_length_le (by simp)
 refine zc8 2 rfl ?_;simp only [go_sem,aeq,aeq.aeqF,simprocAttr,hr,hl,htk]
 refine' walkW fx (za zbL <| za zgO <| za zd5 <| za zf2 <| zb _)
 clear hr hl htk hk
 by_cases h6:4096≤(d.cache.length:Int)
 ·exfalso;simp_all
 ·simp only [zU,if_neg h6];simp_all
@[go_sem] noncomputable def zG:Ent Tryz.prog 105:= .m3 zA (intT .i64) strT zpP
theorem zoU (b:Txt) (k:Nat) (s:Txt):rput (zi b) k (zi s)=zi (lay b k s):=by
 simp [rput,lay,zi,List.map_append,List.map_take,List.map_drop]
theorem zm8 {b:Txt} {k:Nat} {s:Txt} (h:k+s.length≤b.length):(lay b k s).length=b.length:=by
 simp [lay];omega
theorem zlr {b:Txt} {l:List PutR} {i:Nat} {q:PutR} (hq:l[i]?=some q):zd4 b (l.take (i+1))=lay (zd4 b (l.take i)) (q.1*64).toNat q.2:=by
 simp [zd4,zcz hq,List.foldl_append]
theorem zvF {d:Disk} {i:Nat} {q:PutR} (hf:d.cache.all (putOk d)=true) (hq:d.cache[i]?=some q):0≤q.1∧q.1<((d.data.length / 64:Nat):Int)∧q.2.length=64:=by
 have:=List.all_eq_true.1 hf q (List.mem_of_getElem? hq)
 rw [putOk,Bool.and_eq_true] at this
 obtain ⟨h1,h2⟩:=this
 exact ⟨(there_iff.1 h1).1,(there_iff.1 h1).2,by have:=eq_of_beq h2;omega⟩
theorem zrM (d:Disk) (hd:DiskOk d) (hf:d.cache.all (putOk d)=true):ACall Tryz.prog 106 0 [diskA d,.d (.bool true),.d (.sl 1 [])] [] (fun r _=>r= .d (.str (zd4 d.data d.cache))):=by
 refine fbod Tryz.func106 Tryz.ntmps106 (fun base=>?_)
 refine' zc fx
 have hcl:=hd.cache
 have hdl:=hd.data
 refine zo (fun q: { q:Nat×Txt // q.1≤d.cache.length∧q.2=zd4 d.data (d.cache.take q.1)∧q.2.length=d.data.length } =>⟨[(1,true,.d (.bool true)),(2,true,.d (.sl 1 [])),(3,true,.vp 0 0),(7,true,.osl 1 1 (List.length d.data) 0 (List.length d.data)),(8,true,.d (.int .i64 q.1.1))],[(1,.arr 1 (zi q.1.2)),(0,.var [.d (.str d.data),.d (.sl 2 (d.cache.map putD)),.d (.int .i64 d.fuse),.d (.bool d.off),.d (.sl 1 (d.bad.map intD))])],some []⟩) (fun q=>d.cache.length - q.1.1) ⟨(0,d.data),Nat.zero_le _,rfl,rfl⟩ le1 (fun q=>?_)
 obtain ⟨⟨i,b⟩,hi,hb,hbl⟩:=q
 simp only at hi hb hbl ⊢
 rcases zD putD d.cache i hi with ⟨⟨m,s⟩,hq,hlt,hcmp,hrow,hdr,htk⟩|⟨hend,hcmp⟩
 ·simp only [putD] at hrow
  obtain ⟨p1,p2,p3⟩:=zvF hf hq
  simp only at p1 p2 p3
  have hwi:=zn (i:=i) (by omega)
  have hwm:IntKind.i64.wrap (m*64)=m*64:=ze (by omega) (by omega)
  have hst:=zlr (b:=d.data) hq
  rw [← hb] at hst
  have hll:(lay b (m*64).toNat s).length=b.length:=zm8 (by omega)
  have hb0:(zi b).length=d.data.length:=by rw [zi,List.length_map,hbl]
  refine' zc (zaH hcmp hrow hwm @zoU hb0)
  ·rw [zi,List.length_map];omega
  ·exact ⟨⟨(i+1,lay b (m*64).toNat s),by omega,hst.symm,hll.trans hbl⟩,lew,by simp;omega⟩
 ·have hb1:(d.data.length=(zi b).length)=True:=eq_true (by rw [zi,List.length_map,hbl])
  have hb2:List.take d.data.length (zi b)=zi b:=List.take_of_length_le (by rw [zi,List.length_map,hbl];omega)
  refine' zc (zq hcmp hb1 hb2 @if_true.{1} @zap @za2)
  rw [hb,hend,zew]
@[go_sem] noncomputable def zm9:Ent Tryz.prog 106:= .ofL (consL zA (consL (zjt (.d (.bool true))) (consL (zjt (.d (.sl 1 []))) nilL))) (fun (d,_,_,_)=>(DiskOk d)∧(d.cache.all (putOk d)=true)) (fun (d,_,_,_)=> .d (.str (zd4 d.data d.cache))) (fun (d,_,_,_) hp=>⟨rfl,zrM d hp.1 hp.2⟩)
theorem zh8 {d:Disk} :∀ (l:List PutR) (b:Txt),b.length=d.data.length→l.all (putOk d)=true→(zd4 b l).length=b.length
 | [],_,_,_=>rfl
 |q::l,b,hb,h=>by
  rw [List.all_cons,Bool.and_eq_true] at h
  obtain ⟨h1,h2⟩:=h
  rw [putOk,Bool.and_eq_true] at h1
  have h3:=there_iff.1 h1.1
  have h4:q.2.length=64:=by have:=eq_of_beq h1.2;omega
  have h5:(lay b (q.1*64).toNat q.2).length=b.length:=zm8 (by omega)
  rw [zd4,List.foldl_cons]
  exact (zh8 l _ (h5.trans hb) h2).trans h5
theorem zjw {d:Disk} (h:d.cache.all (putOk d)=true):(zd4 d.data d.cache).length=d.data.length:=zh8 (d:=d) _ _ rfl h
theorem zpQ (d:Disk) (hp:DiskOk d∧d.cache.all (putOk d)=true):AC 73 [diskA d] (.tup [diskA (dflush d).1,.d (.int .i64 (dflush d).2)]):=by
 obtain ⟨hd,hf⟩:=hp
 refine fbod Tryz.func73 Tryz.ntmps73 (fun base=>?_)
 have hk:DiskOk { d with data:=zd4 d.data d.cache,cache:= [] } :=⟨by simp only [zjw hf];exact hd.data,by simp,hd.bad,hd.fuse0,hd.fuse1⟩
 refine' walkW fx (za zm9 <| za zd5 <| zb _)
 all_goals simp_all [dflush]
@[go_sem] noncomputable def za3:Ent Tryz.prog 73:= .m1 zA zpQ
end Go.Aw
