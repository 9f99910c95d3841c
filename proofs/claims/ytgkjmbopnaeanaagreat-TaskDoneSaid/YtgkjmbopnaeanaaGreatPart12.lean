/-
 The program's devices: write, flush.
-/
import Derived.Test.YtgkjmbopnaeanaaGreatPart9
set_option maxRecDepth 100000
set_option maxHeartbeats 2000000
set_option linter.unusedSimpArgs false
set_option linter.unusedVariables false
namespace Go.Aw
open Go Go.Proofs
def dburn (d:Disk):Disk×Bool:=if d.fuse=0 then ({ d with off:=true },false) else (burnt d,true)
theorem zwc (d:Disk) (hd:DiskOk d):AC 206 [diskA d] (.tup [diskA (dburn d).1,.d (.bool (dburn d).2)]):=by
 refine fbod Tryz.func206 Tryz.ntmps206 (fun base=>?_)
 have h1:=hd.fuse1
 have hw:0<d.fuse→IntKind.i64.wrap (d.fuse - 1)=d.fuse - 1:=fun h=>ze (by omega) (by omega)
 refine' zc fx
 all_goals by_cases h0:d.fuse=0
 all_goals by_cases h2:0<d.fuse
 all_goals simp_all [dburn,burnt]
 all_goals simp only [if_neg (show ¬0<d.fuse by omega)]
 all_goals simp
@[go_sem] noncomputable def zls:Ent Tryz.prog 206:= .m1 zA zwc
theorem zi4 (l:List PutR) (fl:Nat) (hl:l.length≤5000):ACall Tryz.prog 255 fl [.d (.sl 2 (l.map putD))] [] (fun r h'=>r= .osl fl 2 l.length 0 l.length∧h'= [(fl,.arr 2 (l.map putD))]):=by
 refine bod Tryz.func255 Tryz.ntmps255 (fun base=>?_)
 refine' zdS (zbh 2) fx
 ·refine zh noTab (zb _) (fun K hK=>?_);simp only [go_sem,aeq,aeq.aeqF,simprocAttr]
  (first|(refine hK _ ?_;clear hK K)|(clear hK K;refine hK _ ?_;clear hK K)|(clear hK K;clear hK K;refine hK _ ?_;clear hK K)|(clear hK K;clear hK K;clear hK K;refine hK _ ?_;clear hK K)|(clear hK K;clear hK K;clear hK K;clear hK K;refine hK _ ?_;clear hK K))
  refine zcg 2 2 rfl ?_
  have h0:l= []:=List.map_eq_nil_iff.1 (hnb hc)
  subst h0
  refine' zc fx
  all_goals rfl
theorem znd (d:Disk) (at_:Int) (s:Txt) (hd:DiskOk d):AC 222 [diskA d,.d (.int .i64 at_),.d (.str s)] (.tup [diskA (zU d at_ s).1,.d (.int .i64 (zU d at_ s).2)]):=by
 refine fbod Tryz.func222 Tryz.ntmps222 (fun base=>?_)
 have h1:=hd.bad
 refine' zh6 (zbh 14) fx (za zkj <| za zdk <| za zls <| zb _)
 all_goals first|(simp_all [zU];done)|(by_cases h0:d.fuse=0<;>simp_all [zU,dburn];done)|skip
 have hl:d.cache.length≤5000:=by simp_all;omega
 refine' zc fx
 refine ((zi4 d.cache 3 hl).own rfl rfl (Nat.zero_le _) (by rintro r h' ⟨_,rfl⟩;rfl)).mono ?_
 rintro r h' ⟨h1,⟨rfl,rfl⟩,rfl⟩
 simp only [go_sem,aeq,aeq.aeqF,simprocAttr]
 refine ⟨by omega,by omega,?_⟩
 refine' zc fx
 have hr:d.cache.map putD++ [[.int .i64 at_,.str s]]=(d.cache++ [(at_,s)]).map putD:=by simp [putD]
 rw [hr,if_pos (by simp),List.take_of_length_le (by simp)]
 clear hr
 by_cases h0:d.fuse=0
 ·simp_all [dburn]
 by_cases h6:4096≤(d.cache.length:Int)
 ·exfalso;simp_all
 by_cases h2:0<d.fuse
 ·simp only [zU,dburn,burnt,if_neg h6,if_neg h0,if_pos h2];simp_all
 ·simp only [zU,dburn,burnt,if_neg h6,if_neg h0,if_neg h2];simp_all
@[go_sem] noncomputable def zt:Ent Tryz.prog 222:= .m3 zA (intT .i64) strT znd
theorem zlt (n:Int) (_:True):AC 208 [.d (.int .i64 n)] (.d (.bool true)):=by
 refine bod Tryz.func208 Tryz.ntmps208 (fun base=>?_)
 refine' zc fx
@[go_sem] noncomputable def zfQ:Ent Tryz.prog 208:= .m1 (intT .i64) zlt
theorem zpR (d:Disk) (hd:DiskOk d) (hf:d.cache.all (putOk d)=true):ACall Tryz.prog 207 0 [diskA d,.fn (.func 208) [] []] [] (fun r _=>r= .d (.str (zd4 d.data d.cache))):=by
 refine fbod Tryz.func207 Tryz.ntmps207 (fun base=>?_)
 refine' walkW fx (za zfQ <| zb _)
 have hcl:=hd.cache
 have hdl:=hd.data
 refine zo (fun q: { q:Nat×Txt // q.1≤d.cache.length∧q.2=zd4 d.data (d.cache.take q.1)∧q.2.length=d.data.length } =>⟨[(1,true,.fn (.func 208) [] []),(5,true,.osl 1 1 (List.length d.data) 0 (List.length d.data)),(12,true,.d (.sl 2 (d.cache.map putD))),(13,true,.d (.int .i64 d.cache.length)),(14,true,.d (.int .i64 q.1.1))],[(1,.arr 1 (zi q.1.2)),(0,(.var [.d (.str d.data),.d (.sl 2 (d.cache.map putD)),.d (.int .i64 d.fuse),.d (.bool d.off),.d (.sl 1 (d.bad.map intD))]))],some []⟩) (fun q=>d.cache.length - q.1.1) ⟨(0,d.data),Nat.zero_le _,rfl,rfl⟩ le1 (fun q=>?_)
 obtain ⟨⟨i,b⟩,hi,hb,hbl⟩:=q
 simp only at hi hb hbl ⊢
 rcases zD putD d.cache i hi with ⟨⟨m,s⟩,hq,hlt,hcmp,hrow,hdr,htk⟩|⟨hend,hcmp⟩
 ·simp only [putD] at hrow
  obtain ⟨p1,p2,p3⟩:=zvF hf hq
  simp only at p1 p2 p3
  have hwi:=zn (i:=i) (by omega)
  have hwm:IntKind.i64.wrap (m*64)=m*64:=ze (by omega) (by omega)
  have hst:=zlr (b:=d.data) hq
  rw [← hb] at hst
  have hll:(lay b (m*64).toNat s).length=b.length:=zm8 (by omega)
  have hb0:(zi b).length=d.data.length:=by rw [zi,List.length_map,hbl]
  refine' walkW (zaH hcmp hrow hwm @zoU hb0) (za zfQ <| zb _)
  ·rw [zi,List.length_map];omega
  ·exact ⟨⟨(i+1,lay b (m*64).toNat s),by omega,hst.symm,hll.trans hbl⟩,lew,by simp;omega⟩
 ·have hb1:(d.data.length=(zi b).length)=True:=eq_true (by rw [zi,List.length_map,hbl])
  have hb2:List.take d.data.length (zi b)=zi b:=List.take_of_length_le (by rw [zi,List.length_map,hbl];omega)
  refine' zc (zq hcmp hb1 hb2 @if_true.{1} @zap @za2)
  rw [hb,hend,zew]
@[go_sem] noncomputable def zlu:Ent Tryz.prog 207:= .ofL (consL zA (consL (fnT 208 nilL) nilL)) (fun (d,_,_)=>(DiskOk d)∧(d.cache.all (putOk d)=true)) (fun (d,_,_)=> .d (.str (zd4 d.data d.cache))) (fun (d,_,_) hp=>⟨rfl,zpR d hp.1 hp.2⟩)
theorem zne (d:Disk) (hp:DiskOk d∧d.cache.all (putOk d)=true):AC 167 [diskA d] (.tup [diskA (dflush d).1,.d (.int .i64 (dflush d).2)]):=by
 obtain ⟨hd,hf⟩:=hp
 refine fbod Tryz.func167 Tryz.ntmps167 (fun base=>?_)
 refine' walkW fx (za zls <| za zlu <| zb _)
 all_goals first|(simp_all [dflush];done)|skip
 all_goals by_cases h0:d.fuse=0
 all_goals by_cases h2:0<d.fuse
 all_goals simp_all [dflush,dburn,burnt]
 all_goals simp only [if_neg (show ¬0<d.fuse by omega)]
 all_goals simp [*]
@[go_sem] noncomputable def za4:Ent Tryz.prog 167:= .m1 zA zne
end Go.Aw
