/-
 The reference's devices: the same, fit.
-/
import Derived.Test.YtgldbfelccddbaaGreatPart8
set_option maxRecDepth 100000
set_option maxHeartbeats 2000000
set_option linter.unusedSimpArgs false
set_option linter.unusedVariables false
namespace Go.Aw
open Go Go.Proofs
theorem eq_ne {α:Type} {a b:List α} {i:Nat} {q q':α} (hq:a[i]?=some q) (hq':b[i]?=some q') (h:q≠q'):a≠b:=by
 rintro rfl
 rw [hq] at hq'
 exact h (Option.some.inj hq')
theorem zfS {α:Type} {a b:List α} {i:Nat} {q q':α} (hq:a[i]?=some q) (hq':b[i]?=some q') (h:q=q') (hf:a.take i=b.take i):a.take (i+1)=b.take (i+1):=by
 rw [zcz hq,zcz hq',hf,h]
theorem zik {α:Type} {a b:List α} {i:Nat} (hi:i=a.length) (hl:a.length=b.length) (hf:a.take i=b.take i):a=b:=by
 subst hi
 rwa [zff,hl,zff] at hf
abbrev Eqst {α:Type} (a b:List α):= { i:Nat // i≤a.length∧a.take i=b.take i }
theorem zsR (a b:Disk) (hp:DiskOk a∧DiskOk b):AC 48 [diskA a,diskA b] (.d (.bool (decide (a=b)))):=by
 obtain ⟨ha,hb⟩:=hp
 refine bod Tryz.func48 Tryz.ntmps48 (fun base=>?_)
 refine' zc fx
 ·have:a≠b:=by rintro rfl;simp at hc
  rw [decide_eq_false this]
 have hac:=ha.cache
 have hab:=ha.bad
 obtain ⟨h1,h2,h3,h4,h5⟩:a.data=b.data∧a.cache.length=b.cache.length∧a.fuse=b.fuse∧a.off=b.off∧a.bad.length=b.bad.length:=by
  simp only [Bool.or_eq_false_iff,bne_eq_false_iff_eq,Int.natCast_inj] at hc
  exact ⟨hc.1.1.1.1,hc.1.1.1.2,hc.1.1.2,hc.1.2,hc.2⟩
 refine zk (fun q:Eqst a.cache b.cache=>⟨[(2,true,.vp 0 0),(3,true,.vp 1 0),(5,true,.d (.int .i64 q.1))],[(1,(.var [.d (.str b.data),.d (.sl 2 (b.cache.map putD)),.d (.int .i64 b.fuse),.d (.bool b.off),.d (.sl 1 (b.bad.map intD))])),(0,(.var [.d (.str a.data),.d (.sl 2 (a.cache.map putD)),.d (.int .i64 a.fuse),.d (.bool a.off),.d (.sl 1 (a.bad.map intD))]))],some []⟩) (fun q=>a.cache.length - q.1) ⟨0,Nat.zero_le _,rfl⟩ le1 (fun q=>?_)
 obtain ⟨i,hi,hf⟩:=q
 simp only at hi hf ⊢
 rcases zy putD a.cache i hi with ⟨⟨m,s⟩,hq,hlt,hcmp,hrow,hdr,htk⟩|⟨hend,hcmp⟩
 ·obtain ⟨⟨m',s'⟩,hq'⟩:=zaH (l:=b.cache) (i:=i) U
  have hrow':=zbJ (g:=putD) hq'
  simp only [putD] at hrow hrow'
  have hwi:=zn (i:=i) U
  refine' zc (zq hcmp hrow hrow')
  ·have:a≠b:=by
    rintro rfl
    refine eq_ne hq hq' ?_ rfl
    intro h
    cases h
    simp at hc
   rw [decide_eq_false this]
  ·have hc:m=m'∧s=s':=by simpa using hc
   exact ⟨⟨i+1,U,zfS hq hq' (by rw [hc.1,hc.2]) hf⟩,lew,af⟩
 ·have hce:=zik hend h2 hf
  refine' zc hcmp
  refine zk (fun q:Eqst a.bad b.bad=>⟨[(2,true,.vp 0 0),(3,true,.vp 1 0),(6,true,.d (.int .i64 q.1))],[(1,(.var [.d (.str b.data),.d (.sl 2 (b.cache.map putD)),.d (.int .i64 b.fuse),.d (.bool b.off),.d (.sl 1 (b.bad.map intD))])),(0,(.var [.d (.str a.data),.d (.sl 2 (a.cache.map putD)),.d (.int .i64 a.fuse),.d (.bool a.off),.d (.sl 1 (a.bad.map intD))]))],some []⟩) (fun q=>a.bad.length - q.1) ⟨0,Nat.zero_le _,rfl⟩ le1 (fun q=>?_)
  obtain ⟨j,hj,hg⟩:=q
  simp only at hj hg ⊢
  rcases zy intD a.bad j hj with ⟨m,hq,hlt,hcmp,hrow,hdr,htk⟩|⟨hend,hcmp⟩
  ·obtain ⟨m',hq'⟩:=zaH (l:=b.bad) (i:=j) U
   have hrow':=zbJ (g:=intD) hq'
   simp only [intD] at hrow hrow'
   have hwi:=zn (i:=j) U
   refine' zc (zq hcmp hrow hrow')
   ·have:a≠b:=by
     rintro rfl
     refine eq_ne hq hq' ?_ rfl
     intro h
     cases h
     simp at hc
    rw [decide_eq_false this]
   ·have hmm:m=m':=by simpa using hc
    exact ⟨⟨j+1,U,zfS hq hq' hmm hg⟩,lew,af⟩
  ·have hbe:=zik hend h5 hg
   refine' zc hcmp
   have:a=b:=by
    rw [← zkL a,← zkL b,h1,hce,h3,h4,hbe]
   rw [decide_eq_true this]
@[go_sem] noncomputable def znU:Ent Tryz.prog 48:= .m2 zV zV zsR
theorem zsS {n:Nat} :((n:Int).tmod 64 !=0)= !(n % 64==0):=by
 rw [Int.tmod_eq_emod_of_nonneg U]
 by_cases h:n % 64=0
 ·have:(n:Int) % 64=0:=by omega
  simp [h,this]
 ·have:¬(n:Int) % 64=0:=by omega
  rw [bne,beq_eq_false_iff_ne.mpr this,beq_eq_false_iff_ne.mpr h]
theorem zw4 {x:Bool} {n m:Int} :(!x||(n !=m))= !(x&&(n==m)):=by
 rw [Bool.not_and];rfl
theorem or_le {x:Bool} {n m:Int} :(!x||decide (n≤m))= !(x&&decide (m<n)):=by
 rw [Bool.not_and]
 congr 1
 by_cases h:m<n
 ·rw [decide_eq_true h,decide_eq_false U];rfl
 ·rw [decide_eq_false h,decide_eq_true U];rfl
theorem zvp (d:Disk) (hd:DiskOk d):AC 81 [diskA d] (.d (.bool (dfit d))):=by
 refine bod Tryz.func81 Tryz.ntmps81 (fun base=>?_)
 refine' walkW fx (za zbd <| za zbM <| zb _)
 ·rw [zsS] at hc
  rw [dfit]
  simp only [Bool.or_eq_true,decide_eq_true_eq,Bool.not_eq_true'] at hc
  congr 2
  rcases hc with ((hc|hc)|hc)|hc
  ·rw [decide_eq_false (p:=1≤dsize d) U];simp
  ·rw [decide_eq_false (p:=dsize d≤1024) U];simp
  ·rw [hc];simp
  ·rw [decide_eq_false (p:=d.cache.length≤4096) U];simp
 have hcl:=hd.cache
 have hbl:=hd.bad
 rw [zsS] at hc
 simp only [Bool.or_eq_false_iff,decide_eq_false_iff_not,Bool.not_eq_false'] at hc
 have hfit:dfit d=(d.cache.all (putOk d)&&zcO d d.bad none):=by
  rw [dfit,hc.1.2,decide_eq_true (p:=1≤dsize d) U,decide_eq_true (p:=dsize d≤1024) U,decide_eq_true (p:=d.cache.length≤4096) U]
  simp
 refine zk (fun q: { i:Nat // i≤d.cache.length∧d.cache.all (putOk d)=(d.cache.drop i).all (putOk d) } =>⟨[(1,true,.vp 0 0),(4,true,.d (.int .i64 q.1))],[(0,(.var [.d (.str d.data),.d (.sl 2 (d.cache.map putD)),.d (.int .i64 d.fuse),.d (.bool d.off),.d (.sl 1 (d.bad.map intD))]))],some []⟩) (fun q=>d.cache.length - q.1) ⟨0,Nat.zero_le _,rfl⟩ le1 (fun q=>?_)
 obtain ⟨i,hi,hf⟩:=q
 simp only at hi hf ⊢
 rcases zy putD d.cache i hi with ⟨⟨m,s⟩,hq,hlt,hcmp,hrow,hdr,htk⟩|⟨hend,hcmp⟩
 ·simp only [putD] at hrow
  have hwi:=zn (i:=i) U
  rw [hdr,List.all_cons,putOk] at hf
  refine' walkW (zj hcmp hrow) (za zbd <| za zbM <| zb _)
  ·have hc:(there d m&&((s.length:Int)==64))=false:=by rw [zw4] at hc;simp only [Bool.not_eq_true',Bool.not_eq_false'] at hc;exact hc
   rw [hfit,hf]
   simp only [hc,Bool.false_and]
  ·have hc:(there d m&&((s.length:Int)==64))=true:=by rw [zw4] at hc;simp only [Bool.not_eq_true',Bool.not_eq_false'] at hc;exact hc
   exact ⟨⟨i+1,U,by rw [hf];simp only [hc,Bool.true_and]⟩,lew,af⟩
 ·rw [hend,List.drop_length] at hf
  refine' zc hcmp
  refine zk (fun q: { i:Nat // i≤d.bad.length∧zcO d d.bad none=zcO d (d.bad.drop i) (if i=0 then none else d.bad[i - 1]?) } =>⟨[(1,true,.vp 0 0),(5,true,.d (.int .i64 q.1))],[(0,(.var [.d (.str d.data),.d (.sl 2 (d.cache.map putD)),.d (.int .i64 d.fuse),.d (.bool d.off),.d (.sl 1 (d.bad.map intD))]))],some []⟩) (fun q=>d.bad.length - q.1) ⟨0,Nat.zero_le _,rfl⟩ le1 (fun q=>?_)
  obtain ⟨j,hj,hg⟩:=q
  simp only at hj hg ⊢
  rcases zy intD d.bad j hj with ⟨m,hq,hlt,hcmp,hrow,hdr,htk⟩|⟨hend,hcmp⟩
  ·simp only [intD] at hrow
   have hwi:=zn (i:=j) U
   rw [hdr] at hg
   cases j with
   | zero=>
    have hz:decide ((0:Int)<((0:Nat):Int))=false:=ae
    simp only [if_pos,zcO,Bool.and_true] at hg
    have hcmp0:decide ((0:Int)<(d.bad.length:Int))=true:=hcmp
    refine' walkW (zq hcmp0 hrow hz) (za zbd <| za zbM <| zb _)
    ·have hc:there d m=false:=by simpa using hc
     rw [hfit,hg,hc,Bool.false_and,Bool.and_false]
    ·have hc:there d m=true:=by simpa using hc
     rw [hc,Bool.true_and] at hg
     exact ⟨⟨0+1,U,by rw [if_neg U,Nat.zero_add,Nat.sub_self,hq];exact hg⟩,lev,af⟩
   | succ j=>
    have hz:decide ((0:Int)<((j+1:Nat):Int))=true:=decide_eq_true U
    obtain ⟨m',hq'⟩:=zaH (l:=d.bad) (i:=j) U
    have hrow':=zbJ (g:=intD) hq'
    simp only [intD] at hrow'
    have hwj:IntKind.i64.wrap (((j+1:Nat):Int) - 1)=(j:Int):=aE
    rw [if_neg U,Nat.add_sub_cancel,hq'] at hg
    simp only [zcO] at hg
    refine' walkW (zaB hcmp hrow hz hrow' hwj) (za zbd <| za zbM <| zb _)
    ·have hc:(there d m&&decide (m'<m))=false:=by rw [or_le] at hc;simp only [Bool.not_eq_true',Bool.not_eq_false'] at hc;exact hc
     rw [hfit,hg,hc,Bool.false_and,Bool.and_false]
    ·have hc:(there d m&&decide (m'<m))=true:=by rw [or_le] at hc;simp only [Bool.not_eq_true',Bool.not_eq_false'] at hc;exact hc
     rw [hc,Bool.true_and] at hg
     exact ⟨⟨j+1+1,U,by rw [if_neg U,Nat.add_sub_cancel,hq];exact hg⟩,lew,af⟩
  ·rw [hend,List.drop_length] at hg
   refine' zc hcmp
   rw [hfit,hf,hg]
   rfl
@[go_sem] noncomputable def zfm:Ent Tryz.prog 81:= .m1 zV zvp
end Go.Aw
