/-
  Parts of the proof: TaskB, TaskD, TaskI (short names; the readable texts lie in the repo, under wip).
-/
import Derived.Test.YtgkjmbopnaeanaaGreatPart31
set_option maxRecDepth 100000
set_option maxHeartbeats 2000000
set_option linter.unusedSimpArgs false
set_option linter.unusedVariables false
namespace Go.Aw
open Go Go.Proofs
theorem zsV {d:Disk} {p:Plan} {t i:Int} :(eget d p t i).1.kind=0∨(eget d p t i).1.kind=1∨(eget d p t i).1.kind=2:=by
 by_cases he:(eget d p t i).2=0
 ·exact (zen (zkw he).1).1
 ·unfold eget at he ⊢
  split
  ·exact .inl rfl
  rename_i h1
  rw [if_neg h1] at he
  split
  ·exact .inl rfl
  rename_i h2
  rw [if_neg h2] at he
  unfold entT at he ⊢
  split
  ·exact .inl rfl
  ·rename_i h3
   rw [if_neg h3] at he
   exact absurd rfl he
theorem zqG {d:Disk} {p:Plan} {l g:Int} :(elook d p l g).1.kind=0∨(elook d p l g).1.kind=1∨(elook d p l g).1.kind=2:=by
 unfold elook
 repeat' split
 all_goals first|exact .inl rfl|exact zsV
theorem IF.flush {x:Img} (h:ImgF x):IF x (zdp x).1∧ImgF (zdp x).1:=by
 unfold zdp
 split
 ·exact ⟨IF.refl x,h⟩
 ·have hd:=DF.flush h.disk
  have hf:=h.disk.flush
  exact ⟨⟨rfl,hd,id,rfl,fun _ _=>rfl,rfl⟩,⟨⟨hf.ok,h.ok.maps,h.ok.names,h.ok.bits⟩,hf,h.guest,h.host,h.seq0,h.seq1,h.maps⟩⟩
theorem IF.piece {x:Img} (h:ImgF x) (q:Rq) (c:Nat×Nat×Nat):IF x (tpc x q c).1∧ImgF (tpc x q c).1:=by
 unfold tpc
 split
 ·exact ⟨IF.refl x,h⟩
 split
 ·exact ⟨IF.write h _ _ _,h.write _ _ _⟩
 ·exact ⟨IF.clear1 h _ _,h.clear1 _ _⟩
theorem IF.last {x:Img} (h:ImgF x) (q:Rq) (ms:List Int):IF x (tlast x q ms).1∧ImgF (tlast x q ms).1:=by
 unfold tlast
 split
 ·exact ⟨IF.refl x,h⟩
 split
 ·exact IF.flush h
 ·exact ⟨IF.refl x,h⟩
theorem IF.step {x:Img} (h:ImgF x) (t:Tsk) (ms:List Int):IF x (tstep x t ms).1∧ImgF (tstep x t ms).1:=by
 unfold tstep
 split
 ·exact ⟨IF.refl x,h⟩
 split
 ·exact IF.piece h _ _
 ·exact IF.last h _ _
theorem zu7 (n:Nat):∀a,∀q∈cuts a n,a≤q.1*128+q.2.1∧q.1*128+q.2.1+q.2.2≤a+n∧q.2.1+q.2.2≤128∧1≤q.2.2:=by
 induction n using Nat.strongRecOn with
 | _ n ih=>
  intro a q hq
  rcases Nat.eq_zero_or_pos n with rfl|h
  ·simp [zfm] at hq
  ·rw [zeL a n h,List.mem_cons] at hq
   rcases hq with rfl|hq
   ·simp only;omega
   ·have:=ih _ (by omega) _ q hq
    omega
def csz (l:List (Nat×Nat×Nat)):Nat:=(l.map fun q=>q.2.2).sum
theorem zpo (q:Nat×Nat×Nat) (l:List (Nat×Nat×Nat)):csz (q::l)=q.2.2+csz l:=by simp [csz]
theorem zjJ (a b:List (Nat×Nat×Nat)):csz (a++b)=csz a+csz b:=by simp [csz,List.sum_append]
theorem ziz (l:List (Nat×Nat×Nat)) (k:Nat):csz (l.take k)≤csz l:=by
 have h:=zjJ (l.take k) (l.drop k)
 rw [List.take_append_drop] at h
 omega
theorem zu8 (n:Nat):∀a,csz (cuts a n)=n:=by
 induction n using Nat.strongRecOn with
 | _ n ih=>
  intro a
  rcases Nat.eq_zero_or_pos n with rfl|h
  ·rfl
  ·rw [zeL a n h,zpo,ih _ (by omega)]
   simp only
   omega
theorem zdf {a n:Int} (q:Nat×Nat×Nat) (hq:q∈cutsL a n):a≤q.1*128+q.2.1∧(q.1*128+q.2.1+q.2.2:Int)≤a+n∧q.2.1+q.2.2≤128∧1≤q.2.2:=by
 unfold cutsL at hq
 split at hq
 ·cases hq
 ·have:=zu7 _ _ q hq
  omega
theorem ziA {a n:Int} :csz (cutsL a n)≤n.toNat:=by
 unfold cutsL
 split
 ·exact Nat.zero_le _
 ·rw [zu8]
  exact Nat.le_refl _
theorem zjK {d:Disk} {l1:Int} :∀ (l:List (Nat×Nat×Nat)) (s:Txt),(zeY d l1 l s).1.length≤s.length+csz l
 | [],s=>Nat.le_add_right _ _
 | q::r,s=>by
  rw [zeY]
  split
  ·exact Nat.zero_le _
  ·have:=zjK (d:=d) (l1:=l1) r (s++((cread d l1 q.1).1.take (q.2.1+q.2.2)).drop q.2.1)
   rw [zpo]
   simp only [List.length_append,List.length_drop,List.length_take] at this
   omega
theorem zl4 {x:Img} {a n:Int} :(iread x a n).1.length≤n.toNat:=by
 unfold iread
 split
 ·exact Nat.zero_le _
 split
 ·exact Nat.zero_le _
 ·have h1:=zjK (d:=x.disk) (l1:=(zC x.disk p0).1.l1) (cutsL a n) []
  have h2:=ziA (a:=a) (n:=n)
  simp only [List.length_nil] at h1
  omega
theorem zsW {x:Img} {q:Rq} {c:Nat×Nat×Nat} :(tpc x q c).2.1.length≤c.2.2:=by
 unfold tpc
 split
 ·have:=zl4 (x:=x) (a:=c.1*128+c.2.1) (n:=c.2.2)
  simp only [Int.toNat_natCast] at this
  exact this
 split
 ·exact Nat.zero_le _
 ·exact Nat.zero_le _
theorem zl5 {x:Img} {q:Rq} :∀ (ms:List Int) (l:List Spn),(tctxL x q ms l).1.length≤l.length+ms.length
 | [],l=>Nat.le_add_right _ _
 | k::r,l=>by
  rw [tctxL]
  split
  ·exact Nat.zero_le _
  ·have:=zl5 (x:=x) (q:=q) r (l++ [⟨k,(tctx x q k).1⟩])
   simp only [List.length_append,List.length_cons,List.length_nil] at this ⊢
   omega
theorem zjL {x:Img} {q:Rq} :∀ (ms:List Int) (l:List Spn),(tctxL x q ms l).2=0→(tctxL x q ms l).1.length=l.length+ms.length
 | [],l,_=>rfl
 | k::r,l,h=>by
  rw [tctxL] at h ⊢
  split at h
  ·rename_i h1;exact absurd h h1
  ·rename_i h1
   rw [if_neg h1,zjL r _ h]
   simp only [List.length_append,List.length_cons,List.length_nil]
   omega
theorem zsX {x:Img} {q:Rq} {ms:List Int} :(tlast x q ms).2.1.length≤ms.length:=by
 unfold tlast
 split
 ·have:=zl5 (x:=x) (q:=q) ms []
  simpa using this
 split
 ·exact Nat.zero_le _
 ·exact Nat.zero_le _
structure Tiv (q:Rq) (t:Tsk):Prop where
 rq:t.q=q
 cuts:t.cuts=(tnew q).cuts
 lo:0≤t.loc
 hi:t.loc≤t.cuts.length
 fresh:t.done=false→t.spans= []∧t.err=0
 err:t.err=0∨t.err=5∨t.err=28
 data:t.data.length≤csz (t.cuts.take t.loc.toNat)
 spans:t.spans.length≤3
theorem Tiv.new (q:Rq):Tiv q (tnew q):=⟨rfl,rfl,Int.le_refl _,by simp [tnew],fun _=>⟨rfl,rfl⟩,.inl rfl,by simp [tnew],by simp [tnew]⟩
theorem zu9 {α:Type} {l:List α} {k:Nat} {c:α} (h:l[k]?=some c):l.take (k+1)=l.take k++ [c]:=by
 rw [List.take_add_one,h]
 rfl
theorem Tiv.step {q:Rq} {t:Tsk} (h:Tiv q t) (x:Img) (ms:List Int) (hm:ms.length≤3):Tiv q (tstep x t ms).2:=by
 unfold tstep
 cases hd:t.done with
 |true=>rw [if_pos rfl];exact h
 | false=>
  rw [if_neg (by decide)]
  obtain ⟨k,hk⟩:∃k:Nat,t.loc=k:=⟨t.loc.toNat,by have:=h.lo;omega⟩
  have h0:=h.fresh hd
  have hd1:=h.data
  cases hc:t.cuts[t.loc.toNat]? with
  | some c=>
   have hlt:t.loc.toNat<t.cuts.length:=(List.getElem?_eq_some_iff.1 hc).1
   have hl:=zsW (x:=x) (q:=t.q) (c:=c)
   have hts:=zu9 hc
   have e1:(t.loc+1).toNat=t.loc.toNat+1:=by omega
   simp only
   split
   ·exact ⟨h.rq,h.cuts,by simp only [tfail];omega,by simp only [tfail];omega,fun hh=>by simp [tfail] at hh,by simp only [tfail];split<;>simp,by simp [tfail],by simp [tfail]⟩
   ·refine ⟨h.rq,h.cuts,by simp only;omega,by simp only;omega,fun _=>h0,h.err,?_,h.spans⟩
    simp only
    rw [e1,hts,zjJ,List.length_append]
    have:csz [c]=c.2.2:=by simp [csz]
    omega
  |none=>
   have hl:=zsX (x:=x) (q:=t.q) (ms:=ms)
   simp only
   split
   ·exact ⟨h.rq,h.cuts,h.lo,h.hi,fun hh=>by simp [tfail] at hh,by simp only [tfail];split<;>simp,by simp [tfail],by simp [tfail]⟩
   ·exact ⟨h.rq,h.cuts,h.lo,h.hi,fun hh=>by simp at hh,h.err,h.data,by simp only;omega⟩
theorem zfJ {x:Img} {t:Tsk} {ms:List Int} (h:t.done=true):tstep x t ms=(x,t):=by
 unfold tstep
 rw [if_pos h]
theorem zsY {q:Rq} {x:Img} {t:Tsk} {ms:List Int} (h:Tiv q t):(tstep x t ms).2.done=true∨(tstep x t ms).2.loc=t.loc+1:=by
 unfold tstep
 cases hd:t.done with
 |true=>rw [if_pos rfl];exact .inl hd
 | false=>
  rw [if_neg (by decide)]
  cases hc:t.cuts[t.loc.toNat]? with
  |some c=>
   simp only
   split
   ·exact .inl rfl
   ·exact .inr rfl
  |none=>
   simp only
   split
   ·exact .inl rfl
   ·exact .inl rfl
theorem zsZ {q:Rq} {x:Img} {t:Tsk} {ms:List Int} (h:Tiv q t) (he:t.loc=t.cuts.length):(tstep x t ms).2.done=true:=by
 unfold tstep
 cases hd:t.done with
 |true=>rw [if_pos rfl];exact hd
 |false=>
  rw [if_neg (by decide),List.getElem?_eq_none (by omega)]
  simp only
  split
  ·rfl
  ·rfl
theorem zgZ {ms:List Int} :∀ (n:Nat) {x:Img} {t:Tsk},t.done=true→trunN ms n x t=(x,t)
 |0,_,_,_=>rfl
 |n+1,x,t,h=>by rw [trunN,zfJ h];exact zgZ n h
theorem zl6 {q:Rq} {ms:List Int} (hm:ms.length≤3):∀ (n:Nat) {x:Img} {t:Tsk},ImgF x→Tiv q t→IF x (trunN ms n x t).1∧ImgF (trunN ms n x t).1∧Tiv q (trunN ms n x t).2
 |0,x,t,hx,ht=>⟨IF.refl x,hx,ht⟩
 |n+1,x,t,hx,ht=>by
  rw [trunN]
  obtain ⟨h1,h2⟩:=IF.step hx t ms
  obtain ⟨h3,h4,h5⟩:=zl6 hm n h2 (ht.step x ms hm)
  exact ⟨h1.trans h3,h4,h5⟩
theorem ziB {q:Rq} {ms:List Int} (hm:ms.length≤3):∀ (n:Nat) {x:Img} {t:Tsk},Tiv q t→(t.cuts.length:Int)+1≤t.loc+n→(trunN ms n x t).2.done=true
 |0,x,t,ht,hn=>by have:=ht.hi;simp at hn;omega
 | n +1,x,t,ht,hn=>by
  rw [trunN]
  have hs:=ht.step x ms hm
  by_cases hd:(tstep x t ms).2.done=true
  ·rw [zgZ n hd]
   exact hd
  ·rcases zsY (x:=x) (ms:=ms) ht with h|h
   ·exact absurd h hd
   ·refine ziB hm n hs ?_
    have e:(tstep x t ms).2.cuts.length=t.cuts.length:=by rw [hs.cuts,ht.cuts]
    rw [e,h]
    by_cases he:t.loc=t.cuts.length
    ·exact absurd (zsZ ht he) hd
    ·have:=ht.hi
     simp only [Int.natCast_add,Int.natCast_one] at hn
     omega
theorem zhI {x:Img} (h:ImgF x) (q:Rq) {ms:List Int} (hm:ms.length≤3):IF x (trun x q ms).1∧ImgF (trun x q ms).1∧Tiv q (trun x q ms).2:=zl6 hm _ h (Tiv.new q)
theorem zl7 {x:Img} (q:Rq) {ms:List Int} (hm:ms.length≤3):(trun x q ms).2.done=true:=ziB hm _ (Tiv.new q) (by simp [tnew])
theorem zgu {done:Bool} {k c:Int} {s:Txt} (h0:0≤k) (h1:k≤65535) (h2:s.length≤4128):(zaV done k c s).1≠ []:=by
 rw [zaV,if_neg (by omega),if_neg (by omega)]
 simp [zeM]
theorem zl8:∀ (l:List Ext) (s:Txt),(rrows l s).1.length≤s.length+8*l.length
 | [],s=>by simp [rrows]
 | e::r,s=>by
  rw [rrows]
  split
  ·have:=zl8 r (s++putN e.len.toNat 4++putN e.flags.toNat 4)
   simp only [List.length_append,zu,List.length_cons] at this ⊢
   omega
  ·exact Nat.zero_le _
theorem zf7 {c:Int} {l:List Ext} :(zcI c l).1.length≤4004:=by
 unfold zcI
 split
 ·exact Nat.zero_le _
 ·have:=zl8 l (putN c.toNat 4)
  rw [zu] at this
  omega
theorem zl9 {q:Rq} :∀ (l:List Spn) (s:Txt),(l≠ []∨s≠ [])→zfo q l s≠ []
 | [],s,h=>by rw [zfo];rcases h with h|h;exact absurd rfl h;exact h
 |p::r,s,_=>by
  rw [zfo]
  refine zl9 r _ (.inr ?_)
  have:=zgu (done:=r.isEmpty) (k:=5) (c:=q.cookie) (s:=(zcI p.ctx p.list).1) (by decide) (by decide) (by have:=zf7 (c:=p.ctx) (l:=p.list);omega)
  intro h
  exact this (List.append_eq_nil_iff.1 h).2
open Go Go.Proofs
theorem zqJ (x:Img) (hp:0≤x.geom.guest∧x.geom.guest≤1000000):AC 66 [imgA x] (.d (.int .i64 (128*x.geom.guest))):=by
 obtain ⟨h0,h1⟩:=hp
 refine fbod Tryz.func66 Tryz.ntmps66 (fun base=>?_)
 have hw:IntKind.i64.wrap (128*x.geom.guest)=128*x.geom.guest:=ze (by omega) (by omega)
 refine' zc hw
@[go_sem] noncomputable def zmd:Ent Tryz.prog 66:= .m1 zaO zqJ
theorem zn2 (x:Img) (h:ImgF x):AC 56 [imgA x] (.tup [imgA (zdp x).1,.d (.int .i64 (zdp x).2)]):=by
 refine fbod Tryz.func56 Tryz.ntmps56 (fun base=>?_)
 have hdo:=h.disk.ok
 have hdp:=h.disk.puts
 cases hb:x.broken with
 |true=>
  refine' walkW hb (za za3 <| zb _)
  rw [zdp,if_pos hb,hb]
 |false=>
  obtain ⟨F,hF⟩:∃F,F=dflush x.disk:=⟨_,rfl⟩
  refine' walkW (zk hb hF.symm) (za za3 <| zb _)
  rw [zdp,if_neg (by rw [hb];decide),← hF]
@[go_sem] noncomputable def zaL:Ent Tryz.prog 56:= .m1 zaO zn2
theorem zqK (x:Img) (a n:Int) (hp:ImgF x∧0≤x.geom.guest):AC 27 [imgA x,.d (.int .i64 a),.d (.int .i64 n)] (.tup [.d (.str (iread x a n).1),.d (.int .i64 (iread x a n).2)]):=by
 obtain ⟨h,h0⟩:=hp
 refine fbod Tryz.func27 Tryz.ntmps27 (fun base=>?_)
 have hgu:=h.guest
 have hdf:=h.disk
 have hdp:DP x.disk p0:=⟨h.disk,zcc⟩
 obtain ⟨Z,hZ⟩:∃Z,Z=iread x a n:=⟨_,rfl⟩
 rw [← hZ]
 rw [iread] at hZ
 cases hb:inB x.geom.guest a n with
 |false=>
  rw [hb,if_pos rfl] at hZ
  refine' walkW hb (za zH <| za zw <| za z7 <| za zaa <| zb _)
  rw [hZ]
 | true=>
  rw [hb,if_neg (by decide)] at hZ
  obtain ⟨R,hR⟩:∃R,R=zC x.disk p0:=⟨_,rfl⟩
  rw [← hR] at hZ
  obtain ⟨l,hl⟩:∃l,l=cutsL a n:=⟨_,rfl⟩
  have hll:l.length≤65536:=by rw [hl];exact zce a n
  have hrg:∀q∈l,q.2.1+q.2.2≤128:=by rw [hl];exact fun q hq=>(zdf q hq).2.2.1
  rw [← hl] at hZ
  refine' walkW (zr hb hR.symm hl.symm) (za zH <| za zw <| za z7 <| za zaa <| zb _)
  ·rw [hZ,if_pos (bneP hc)]
  ·rw [if_neg (bneN hc)] at hZ
   refine zo (fun q: { q:Nat×Txt // q.1≤l.length∧q.2.length≤128*q.1∧Z=zeY x.disk R.1.l1 (l.drop q.1) q.2 } =>⟨[(3,true,.vp 0 0),(8,true,.vp 1 0),(10,true,.d (.str q.1.2)),(11,true,.d (.sl 3 (l.map cutD))),(12,true,.d (.int .i64 q.1.1))],[(1,.var [.d (.int .i64 R.1.l1),.d (.int .u32 R.1.next)]),(0,.var (imgV x))],some []⟩) (fun q=>l.length - q.1.1) ⟨(0,[]),Nat.zero_le _,Nat.le_refl _,hZ⟩ le1 (fun q=>?_)
   obtain ⟨⟨i,s⟩,hi,hs,hf⟩:=q
   simp only at hi hs hf ⊢
   rcases zD cutD l i hi with ⟨⟨c0,c1,c2⟩,hq,hlt,hcmp,hrow,hdr,htk⟩|⟨hend,hcmp⟩
   ·simp only [cutD] at hrow
    have hwi:=zn (i:=i) (by omega)
    have hcr:=hrg _ (List.mem_of_getElem? hq)
    simp only at hcr
    rw [hdr,zeY] at hf
    obtain ⟨C,hC⟩:∃C,C=cread x.disk R.1.l1 c0:=⟨_,rfl⟩
    have hwc:IntKind.i64.wrap ((c1:Int)+(c2:Int))=((c1+c2:Nat):Int):=by rw [ze (by omega) (by omega)];omega
    have hcl:C.2=0→C.1.length=128:=by rw [hC];exact zff h.disk.puts
    simp only at hf
    rw [← hC] at hf
    cases he:(C.2 !=0) with
    |true=>
     rw [if_pos (by simpa using he)] at hf
     refine' walkW (zS hcmp hrow hC.symm he) (za zH <| za zw <| za z7 <| za zaa <| zb _)
     rw [hf]
    |false=>
     rw [if_neg (by simpa using he)] at hf
     have hcl2:=hcl (by simpa using he)
     have htl:(List.drop c1 (List.take (c1+c2) C.1)).length≤128:=by rw [List.length_drop,List.length_take];omega
     refine' walkW (zq hcmp hrow hC.symm he hwc natC) (za zH <| za zw <| za z7 <| za zaa <| zb _)
     all_goals first|omega|skip
     exact ⟨⟨(i+1,s++List.drop c1 (List.take (c1+c2) C.1)),by omega,by simp only [List.length_append];omega,hf⟩,lev,by simp;omega⟩
   ·refine' walkW hcmp (za zH <| za zw <| za z7 <| za zaa <| zb _)
    rw [hf,hend,List.drop_length]
    rfl
@[go_sem] noncomputable def za7:Ent Tryz.prog 27:= .m3 zaO (intT .i64) (intT .i64) zqK
theorem zpr {f:Int→Int×Int} {Z:List Ext×Int} {q:Nat×Nat×Nat} {r:List (Nat×Nat×Nat)} {o:List Ext} (h:Z=spL f (q::r) o):Z=if (f q.1).2≠0 then ([],(f q.1).2) else spL f r (o++ [⟨q.2.2,(f q.1).1⟩]):=by rw [h,spL]
theorem zwV {d:Disk} {l1:Int} {Z:List Ext×Int} {c0 c1 c2:Nat} {r:List (Nat×Nat×Nat)} {o:List Ext} (h:Z=spL (elkF d l1) ((c0,c1,c2)::r) o):Z=if (elook d p0 l1 c0).2≠0 then ([],(elook d p0 l1 c0).2) else spL (elkF d l1) r (o++ [⟨c2,zhq (elook d p0 l1 c0).1⟩]):=by rw [h,spL];rfl
theorem zme (x:Img) (l1 a n:Int) (hp:ImgF x∧0≤x.geom.guest):AC 92 [imgA x,.d (.int .i64 l1),.d (.int .i64 a),.d (.int .i64 n)] (.tup [.d (.sl 2 ((zbO x l1 a n).1.map extD)),.d (.int .i64 (zbO x l1 a n).2)]):=by
 obtain ⟨h,h0⟩:=hp
 refine fbod Tryz.func92 Tryz.ntmps92 (fun base=>?_)
 have hgu:=h.guest
 have hdf:=h.disk
 have hdp:DP x.disk p0:=⟨h.disk,zcc⟩
 obtain ⟨Z,hZ⟩:∃Z,Z=zbO x l1 a n:=⟨_,rfl⟩
 rw [← hZ]
 rw [zbO] at hZ
 by_cases hr:n<1∨inB x.geom.guest a n=false
 ·rw [if_pos hr] at hZ
  have hdec:(decide (n<1)|| !inB x.geom.guest a n)=true:=by simpa using hr
  refine' walkW hdec (za zH <| za z7 <| za zI <| za zcK <| za zas <| zb _)
  rw [hZ]
  rfl
 ·rw [if_neg hr] at hZ
  have hdec:(decide (n<1)|| !inB x.geom.guest a n)=false:=by simpa using hr
  obtain ⟨l,hl⟩:∃l,l=cutsL a n:=⟨_,rfl⟩
  have hll:l.length≤65536:=by rw [hl];exact zce a n
  have hrg:∀q∈l,1≤q.2.2∧q.2.2≤128:=by rw [hl];exact fun q hq=>⟨(zdf q hq).2.2.2,zfH a n q hq⟩
  rw [← hl] at hZ
  refine' walkW (zk hdec hl.symm) (za zH <| za z7 <| za zI <| za zcK <| za zas <| zb _)
  refine zcg 10 2 rfl ?_
  simp only [fresh,top,hget, ↓reduceIte]
  refine zo (fun q: { q:Nat×List Ext // q.1≤l.length∧q.2.length=q.1∧(∀y∈q.2,1≤y.len∧y.len≤128)∧Z=spL (elkF x.disk l1) (l.drop q.1) q.2 } =>⟨[(1,true,.d (.int .i64 l1)),(4,true,.vp 0 0),(10,true,.osl 1 2 q.1.2.length 0 q.1.2.length),(11,true,.d (.sl 3 (l.map cutD))),(12,true,.d (.int .i64 q.1.1))],[(1,.arr 2 (q.1.2.map extD)),(0,.var (imgV x))],some []⟩) (fun q=>l.length - q.1.1) ⟨(0,[]),Nat.zero_le _,rfl,by simp,hZ⟩ le1 (fun q=>?_)
  obtain ⟨⟨i,o⟩,hi,hol,ho,hf⟩:=q
  simp only at hi hol ho hf ⊢
  rcases zD cutD l i hi with ⟨⟨c0,c1,c2⟩,hq,hlt,hcmp,hrow,hdr,htk⟩|⟨hend,hcmp⟩
  ·simp only [cutD] at hrow
   have hwi:=zn (i:=i) (by omega)
   have hcr:=hrg _ (List.mem_of_getElem? hq)
   rw [hdr] at hf
   have hf:=zwV hf
   simp only at hcr
   obtain ⟨C,hC⟩:∃C,C=elook x.disk p0 l1 c0:=⟨_,rfl⟩
   rw [← hC] at hf
   cases he:(C.2 !=0) with
   |true=>
    rw [if_pos (by simpa using he)] at hf
    refine' walkW (zS hcmp hrow hC.symm he) (za zH <| za z7 <| za zI <| za zcK <| za zas <| zb _)
    rw [hf]
    rfl
   | false=>
    rw [if_neg (by simpa using he)] at hf
    refine' walkW (zS hcmp hrow hC.symm he) (za zH <| za z7 <| za zI <| za zcK <| za zas <| zb _)
    all_goals first|omega|skip
    exact ⟨⟨(i+1,o++ [⟨c2,zhq C.1⟩]),by omega,by simp [hol],fun y hy=>by
     rcases List.mem_append.1 hy with hy|hy
     ·exact ho y hy
     ·rw [List.mem_singleton] at hy
      subst hy
      simp only
      omega,hf⟩,by simp only [List.map_append,List.length_append,List.length_singleton];simp only [AS.le,leT,leH,zf,AsgK,AV.le,AV.leL,AObj.le,inH,idsT,idsH,AV.ids,AV.idsL,AV.idsR,AObj.ids,lk,hget,go_sem,aeq,aeq.aeqF,simprocAttr,hwi]<;>and_intros<;>rfl,by simp;omega⟩
  ·rw [hend,List.drop_length,spL] at hf
   have hol2:o.length≤65536:=by omega
   refine zc8 1 rfl ?_;simp only [go_sem,aeq,aeq.aeqF,simprocAttr]
   refine' walkW hcmp (za zH <| za z7 <| za zI <| za zcK <| za zas <| zb _)
   all_goals first|omega|exact ho|skip
   rw [hf]
@[go_sem] noncomputable def zbC:Ent Tryz.prog 92:= .m4 zaO (intT .i64) (intT .i64) (intT .i64) zme
open Go Go.Proofs
theorem zvb (x:Img) (hp:0≤x.geom.guest∧x.geom.guest≤1000000):AC 139 [imgA x] (.d (.int .i64 (128*x.geom.guest))):=by
 obtain ⟨h0,h1⟩:=hp
 refine fbod Tryz.func139 Tryz.ntmps139 (fun base=>?_)
 have hw:IntKind.i64.wrap (x.geom.guest*128)=128*x.geom.guest:=by rw [ze (by omega) (by omega)];omega
 refine' zc hw
@[go_sem] noncomputable def zqN:Ent Tryz.prog 139:= .m1 zaO zvb
theorem zpv {g a n:Int} (h0:0≤g) (h1:g≤1000000):(decide (a<0)||decide (n<0)||decide (128*g<n)||decide (IntKind.i64.wrap (128*g - n)<a))= !inB g a n:=by
 rw [← zwT]
 by_cases h:n<0
 ·rw [decide_eq_true h];simp
 by_cases h2:128*g<n
 ·rw [decide_eq_true h2];simp
 rw [ze (by omega) (by omega)]
theorem zob (x:Img) (a n:Int) (hp:0≤x.geom.guest∧x.geom.guest≤1000000):AC 116 [imgA x,.d (.int .i64 a),.d (.int .i64 n)] (.d (.bool (!inB x.geom.guest a n))):=by
 obtain ⟨h0,h1⟩:=hp
 refine fbod Tryz.func116 Tryz.ntmps116 (fun base=>?_)
 have hx:=zpv (a:=a) (n:=n) h0 h1
 refine' walkW hx (za zqN <| zb _)
@[go_sem] noncomputable def zdw:Ent Tryz.prog 116:= .m3 zaO (intT .i64) (intT .i64) zob
theorem zqO (x:Img) (h:ImgF x):AC 124 [imgA x] (.tup [imgA (zdp x).1,.d (.int .i64 (zdp x).2)]):=by
 refine fbod Tryz.func124 Tryz.ntmps124 (fun base=>?_)
 have hdo:=h.disk.ok
 have hdp:=h.disk.puts
 cases hb:x.broken with
 |true=>
  refine' walkW hb (za za4 <| zb _)
  rw [zdp,if_pos hb,hb]
 |false=>
  obtain ⟨F,hF⟩:∃F,F=dflush x.disk:=⟨_,rfl⟩
  refine' walkW (zk hb hF.symm) (za za4 <| zb _)
  rw [zdp,if_neg (by rw [hb];decide),← hF]
@[go_sem] noncomputable def za9:Ent Tryz.prog 124:= .m1 zaO zqO
def zeZ:Nat→List (Nat×Nat×Nat)→List ((Nat×Nat×Nat)×Nat)
 |_,[]=> []
 |s,q::r=>(q,s)::zeZ (s+q.2.2) r
def zb2 (p:(Nat×Nat×Nat)×Nat):List AV:= [.agg [.d (.int .i64 p.1.1),.d (.int .i64 p.1.2.1),.d (.int .i64 p.1.2.2)],.d (.int .i64 p.2)]
theorem zdF:∀ (s:Nat) (l:List (Nat×Nat×Nat)),(zeZ s l).map (·.1)=l
 |_,[]=>rfl
 |s,q::r=>by rw [zeZ,List.map_cons,zdF]
theorem zs6 (a n:Int) (_:True):AC 118 [.d (.int .i64 a),.d (.int .i64 n)] (.fn (.func 147) [] [.dp [.d (.int .i64 a)],.dp [.d (.int .i64 n)]]):=by
 refine fbod Tryz.func118 Tryz.ntmps118 (fun base=>?_)
 refine' zc fx
@[go_sem] noncomputable def zeO:Ent Tryz.prog 118:= .m2 (intT .i64) (intT .i64) zs6
theorem zml (a:Int) (n:Int) (l:List (Nat×Nat×Nat)) (hl:cutsL a n=l):AIter Tryz.prog 147 100 [] [.dp [.d (.int .i64 a)],.dp [.d (.int .i64 n)]] [] ((zeZ 0 l).map zb2) (fun g h'=>(∀xs,g=some xs→xs=(zeZ 0 l).map zb2)∧h'= []):=by
 refine itr Tryz.func147 Tryz.ntmps147 (fun base y=>?_)
 refine ze9 ?_
 have hll:l.length≤65536:=by rw [← hl];exact zce a n
 have hle:∀q∈l,q.2.2≤128:=by rw [← hl];exact zfH a n
 refine' walkX hl (za zbA <| zb _)
 refine zo (fun q: { q:Nat×Nat×List (List AV) // q.1≤l.length∧q.2.1≤128*q.1∧q.2.2++(zeZ q.2.1 (l.drop q.1)).map zb2=(zeZ 0 l).map zb2 } =>⟨[(0,true,.fn (.yield y.yl) [] []),(4,true,.d (.int .i64 q.1.2.1)),(9,true,.d (.sl 3 (l.map cutD))),(10,true,.d (.int .i64 l.length)),(11,true,.d (.int .i64 q.1.1))],[],some q.1.2.2⟩) (fun q=>l.length - q.1.1) ⟨(0,0,[]),Nat.zero_le _,Nat.le_refl _,rfl⟩ le1 (fun q=>?_)
 obtain ⟨⟨i,s,xs⟩,hi,hs,hf⟩:=q
 simp only at hi hs hf ⊢
 rcases zD cutD l i hi with ⟨⟨c0,c1,c2⟩,hq,hlt,hcmp,hrow,hdr,htk⟩|⟨hend,hcmp⟩
 ·simp only [cutD] at hrow
  have hwi:=zn (i:=i) (by omega)
  have hc2:=hle _ (List.mem_of_getElem? hq)
  simp only at hc2
  have hws:IntKind.i64.wrap ((s:Int)+(c2:Int))=((s+c2:Nat):Int):=by rw [ze (by omega) (by omega)];omega
  rw [hdr,zeZ,List.map_cons] at hf
  have hpre:(xs++ [zb2 ((c0,c1,c2),s)])<+:(zeZ 0 l).map zb2:=by rw [← hf];simp
  simp only [zb2] at hpre
  refine' zaz (zr hcmp hrow hws)
  exact ⟨⟨(i+1,s+c2,xs++ [zb2 ((c0,c1,c2),s)]),by omega,by simp only;omega,by rw [← hf];simp⟩,by simp only [AS.le,leT,leH,zf,AsgK,AV.le,AV.leL,AObj.le,inH,idsT,idsH,AV.ids,AV.idsL,AV.idsR,AObj.ids,lk,hget,go_sem,aeq,aeq.aeqF,simprocAttr,hwi,zb2],by simp;omega⟩
 ·refine' zaz hcmp
  rintro zs rfl
  rw [← hf,hend,List.drop_length,zeZ]
  simp
def zcf (d:Disk) (l1:Int) (l:List (Nat×Nat×Nat)):Txt:=l.flatMap fun q=>((cread d l1 q.1).1.take (q.2.1+q.2.2)).drop q.2.1
@[simp, go_sem] theorem zxd (d:Disk) (l1:Int):zcf d l1 []= []:=rfl
theorem zoc (d:Disk) (l1:Int) (l:List (Nat×Nat×Nat)) (q:Nat×Nat×Nat):zcf d l1 (l++ [q])=zcf d l1 l++((cread d l1 q.1).1.take (q.2.1+q.2.2)).drop q.2.1:=by simp [zcf]
theorem zg1 (d:Disk) (l1:Int):∀ (l r:List (Nat×Nat×Nat)) (s:Txt),(∀q∈l,(cread d l1 q.1).2=0)→zeY d l1 (l++r) s=zeY d l1 r (s++zcf d l1 l)
 | [],r,s,_=>by simp [zcf]
 |q::l,r,s,h=>by
  rw [List.cons_append,zeY,if_neg (by simpa using h q List.mem_cons_self),zg1 d l1 l r _ (fun y hy=>h y (List.mem_cons_of_mem _ hy))]
  simp [zcf,List.append_assoc]
theorem zg2 {d:Disk} {l1:Int} (h:d.cache.all (putOk d)=true):∀l:List (Nat×Nat×Nat),(zcf d l1 l).length≤128*l.length
 | []=>Nat.zero_le _
 |q::l=>by
  have h1:=zg2 h l (l1:=l1)
  have h2:=zpc (l1:=l1) (g:=q.1) h
  simp only [zcf,List.flatMap_cons,List.length_append,List.length_drop,List.length_take,List.length_cons] at h1 ⊢
  omega
theorem zs7 (x:Img) (a n:Int) (hp:ImgF x∧0≤x.geom.guest):AC 84 [imgA x,.d (.int .i64 a),.d (.int .i64 n)] (.tup [.d (.str (iread x a n).1),.d (.int .i64 (iread x a n).2)]):=by
 obtain ⟨h,h0⟩:=hp
 refine fbod Tryz.func84 Tryz.ntmps84 (fun base=>?_)
 have hgu:=h.guest
 have hdf:=h.disk
 have hdp:DP x.disk p0:=⟨h.disk,zcc⟩
 obtain ⟨Z,hZ⟩:∃Z,Z=iread x a n:=⟨_,rfl⟩
 rw [← hZ]
 rw [iread] at hZ
 cases hb:inB x.geom.guest a n with
 |false=>
  rw [hb,if_pos rfl] at hZ
  refine' walkR hb (za zdw <| za zj <| za zeO <| za zF <| zb _)
  rw [hZ]
 |true=>
 rw [hb,if_neg (by decide)] at hZ
 obtain ⟨R,hR⟩:∃R,R=zC x.disk p0:=⟨_,rfl⟩
 rw [← hR] at hZ
 obtain ⟨l,hl⟩:∃l,l=cutsL a n:=⟨_,rfl⟩
 have hll:l.length≤65536:=by rw [hl];exact zce a n
 have hrg:∀q∈l,q.2.1+q.2.2≤128:=by rw [hl];exact fun q hq=>(zdf q hq).2.2.1
 rw [← hl] at hZ
 have hit:=zml a n l hl.symm
 refine' walkR (zk hb hR.symm) (za zdw <| za zj <| za zeO <| za zF <| zb _)
 ·rw [hZ,if_pos (bneP hc)]
 rw [if_neg (bneN hc)] at hZ
 clear hc
 refine zgs 4 1 rfl rfl ?_
 simp only [go_sem,aeq,aeq.aeqF,simprocAttr]
 obtain ⟨B,hB⟩:∃B:Nat→AHeap,B=fun k=> [(5,.buf 5 (zcf x.disk R.1.l1 (l.take k))),(4,.tvar 85 [if k=0 then .d .nilp else .tp 4 0,.bsl 5 (zcf x.disk R.1.l1 (l.take k)).length]),(3,.var [.d (.int .i64 R.1.l1),.d (.int .u32 R.1.next)])]:=⟨_,rfl⟩
 obtain ⟨I,hI⟩:∃I:List (List AV)→AHeap×Option (List (List AV)),I=fun xs=>([(5,.buf 5 (zcf x.disk R.1.l1 (l.take xs.length))),(4,.tvar 85 [if xs.length=0 then .d .nilp else .tp 4 0,.bsl 5 (zcf x.disk R.1.l1 (l.take xs.length)).length]),(3,.var [.d (.int .i64 R.1.l1),.d (.int .u32 R.1.next)]),(2,.var [.d (.int .i64 0)]),(1,.var [.d (.str [])]),(0,.var (imgV x))],some []):=⟨_,rfl⟩
 obtain ⟨G,hG⟩:∃G:List (List AV)→Prop,G=fun xs=>∀q∈l.take xs.length,(cread x.disk R.1.l1 q.1).2=0:=⟨_,rfl⟩
 obtain ⟨J,hJ⟩:∃J:Code→AHeap→Option (List (List AV))→Prop,J=fun c h g=>c= .ret∧g=some []∧∃ (k:Nat) (e u v w:Int),Z=([],e)∧h= [(100,.var [.d (.int .i64 u),.d (.int .i64 v),.d (.int .i64 w)]),(5,.buf 5 (zcf x.disk R.1.l1 (l.take k))),(4,.tvar 85 [if k=0 then .d .nilp else .tp 4 0,.bsl 5 (zcf x.disk R.1.l1 (l.take k)).length]),(3,.var [.d (.int .i64 R.1.l1),.d (.int .u32 R.1.next)]),(2,.var [.d (.int .i64 e)]),(1,.var [.d (.str [])]),(0,.var (imgV x))]:=⟨_,rfl⟩
 clear hB B
 refine aw_le ⟨[(3,true,.vp 0 0),(6,true,.vp 1 0),(7,true,.vp 2 0),(8,true,.vp 3 0),(10,true,.tp 4 0),(30,true,.fn (.func 147) [] [.dp [.d (.int .i64 a)],.dp [.d (.int .i64 n)]])],[(5,.buf 5 []),(4,.tvar 85 [.d .nilp,.bsl 5 0]),(3,.var [.d (.int .i64 R.1.l1),.d (.int .u32 R.1.next)]),(2,.var [.d (.int .i64 0)]),(1,.var [.d (.str [])]),(0,.var (imgV x))],some []⟩ le1 ?_
 refine zbz 100 G I J (hit) (by simp only [go_sem,aeq,aeq.aeqF,simprocAttr]) rfl (z2 rfl) (by simp [cxOf,cxY]) rfl (by rw [hG];first|trivial|rfl|simp) (by rw [hI];simp only [AS.le,leT,leH,zf,AsgK,AV.le,AV.leL,AObj.le,inH,idsT,idsH,AV.ids,AV.idsL,AV.idsR,AObj.ids,lk,hget,go_sem,aeq,aeq.aeqF,simprocAttr]<;>simp [AV.leL,AV.le]) (by rw [hI];simp only [AS.le,leT,leH,zf,AsgK,AV.le,AV.leL,AObj.le,inH,idsT,idsH,AV.ids,AV.idsL,AV.idsR,AObj.ids,lk,hget,go_sem,aeq,aeq.aeqF,simprocAttr]<;>simp) (by rw [hI]<;>rfl) (by intro x hx;obtain ⟨q,_,rfl⟩:=List.mem_map.1 hx;rfl) (by intro t ht;simp at ht;first|(rcases ht with rfl|rfl<;>simp [cxOf,cxY]<;>done)|(subst ht;simp [cxOf,cxY])) ?_ ?_ ?_
 ·intro xs x1 hpre hgd l1' r1
  obtain ⟨ys,⟨⟨c0,c1,c2⟩,s⟩,zs,hys,rfl,hzl⟩:=zdT hpre
  have hln:xs.length=ys.length:=by rw [hys];simp
  have hle:l=ys.map (·.1)++(c0,c1,c2)::zs.map (·.1):=by
   have h2:=zdF 0 l
   rw [hzl] at h2
   rw [← h2]
   simp
  obtain ⟨k,hk⟩:∃k,k=xs.length:=⟨_,rfl⟩
  have hq:l[k]?=some (c0,c1,c2):=by rw [hle,hk,hln];simp
  have hkl:k<l.length:=(List.getElem?_eq_some_iff.1 hq).1
  have hcr:=hrg _ (List.mem_of_getElem? hq)
  simp only at hcr
  have htk:=zcz hq
  rw [hG,← hk] at hgd
  simp only [zb2]
  obtain ⟨C,hC⟩:∃C,C=cread x.disk R.1.l1 c0:=⟨_,rfl⟩
  have hcl:C.2=0→C.1.length=128:=by rw [hC];exact zff h.disk.puts
  have hsp:Z=zeY x.disk R.1.l1 ((c0,c1,c2)::zs.map (·.1)) ([]++zcf x.disk R.1.l1 (l.take k)):=by
   rw [← zg1 _ _ _ _ _ hgd,hZ]
   congr 1
   have hdz:l.drop (k+1)=zs.map (·.1):=by
    have h3:l=(ys.map (·.1)++ [(c0,c1,c2)])++zs.map (·.1):=by rw [hle];simp
    rw [h3]
    exact List.drop_left' (by simp;omega)
   conv=>lhs;rw [← List.take_append_drop k l]
   rw [zdQ hq,hdz]
  rw [zeY] at hsp
  simp only at hsp
  rw [← hC] at hsp
  obtain ⟨b,hb2⟩:∃b,b=zcf x.disk R.1.l1 (l.take k):=⟨_,rfl⟩
  have hbl:b.length≤8388608:=by
   rw [hb2]
   have:=zg2 (l1:=R.1.l1) h.disk.puts (l.take k)
   rw [List.length_take] at this
   omega
  refine aw_le ⟨[(31,true,.agg [.d (.int .i64 c0),.d (.int .i64 c1),.d (.int .i64 c2)]),(3,true,.vp 0 0),(6,true,.vp 1 0),(7,true,.vp 2 0),(8,true,.vp 3 0),(10,true,.tp 4 0)],[(5,.buf 5 b),(4,.tvar 85 [if k=0 then .d .nilp else .tp 4 0,.bsl 5 b.length]),(3,.var [.d (.int .i64 R.1.l1),.d (.int .u32 R.1.next)]),(2,.var [.d (.int .i64 0)]),(1,.var [.d (.str [])]),(0,.var (imgV x))],some []⟩ (by
   rw [hI,hb2]
   simp only [← hk]
   by_cases hk0:k=0
   ·simp only [if_pos hk0]
    simp only [AS.le,leT,leH,zf,AsgK,AV.le,AV.leL,AObj.le,inH,idsT,idsH,AV.ids,AV.idsL,AV.idsR,AObj.ids,lk,hget,go_sem,aeq,aeq.aeqF,simprocAttr]<;>and_intros<;>rfl
   ·simp only [if_neg hk0]
    simp only [AS.le,leT,leH,zf,AsgK,AV.le,AV.leL,AObj.le,inH,idsT,idsH,AV.ids,AV.idsL,AV.idsR,AObj.ids,lk,hget,go_sem,aeq,aeq.aeqF,simprocAttr]<;>and_intros<;>rfl) ?_
  cases he:(C.2 !=0) with
  |true=>
   rw [if_pos (by simpa using he)] at hsp
   refine' walkR (zk hC.symm he) (za zdw <| za zj <| za zeO <| za zF <| zb _)
   rw [hJ]
   exact ⟨rfl,rfl,k,C.2,c0,c1,c2,hsp,by rw [hb2];rfl⟩
  | false=>
   have hcl2:=hcl (by simpa using he)
   have hwc:IntKind.i64.wrap ((c1:Int)+(c2:Int))=((c1+c2:Nat):Int):=by rw [ze (by omega) (by omega)];omega
   have htl:(List.drop c1 (List.take (c1+c2) C.1)).length≤128:=by rw [List.length_drop,List.length_take];omega
   refine' walkR (zS hC.symm he hwc natC) (za zdw <| za zj <| za zeO <| za zF <| zb _)
   all_goals first|omega|skip
   refine (zeK (i:=4) (j:=5) (o:=0) (T:=85) (cs:= [if k=0 then .d .nilp else .tp 4 0,.bsl 5 b.length]) (xs:=b) rfl (by by_cases h0:k=0<;>simp [h0]) rfl rfl rfl zf4 (by omega)).mono ?_
   rintro r h' ⟨rfl,rfl⟩
   have hsn:zcf x.disk R.1.l1 (l.take (k+1))=b++List.drop c1 (List.take (c1+c2) C.1):=by rw [htk,zoc,hb2,hC]
   have hif:(if k+1=0 then AV.d .nilp else AV.tp 4 0)= .tp 4 0:=if_neg (by omega)
   have hxl:(xs++ [zb2 ((c0,c1,c2),s)]).length=k+1:=by rw [List.length_append,← hk];rfl
   simp only [zb2] at hxl
   refine' zb9 (zaH hI hxl hsn hif @List.length_append.{0})
   all_goals first|(rw [hI];done)|skip
   rw [hG]
   simp only [hxl,htk]
   intro q hq2
   rcases List.mem_append.1 hq2 with hq2|hq2
   ·exact hgd q hq2
   ·rw [List.mem_singleton.1 hq2]
    show (cread x.disk R.1.l1 c0).2=0
    rw [← hC]
    simpa using he
 ·intro hgd
  rw [hG] at hgd
  rw [hI]
  have hall:Z=(zcf x.disk R.1.l1 l,0):=by
   rw [List.length_map] at hgd
   have hpl:(zeZ 0 l).length=l.length:=by rw [← zdF 0 l,List.length_map,zdF]
   rw [hpl,List.take_length] at hgd
   have:=zg1 x.disk R.1.l1 l [] [] hgd
   rw [List.append_nil,List.nil_append] at this
   rw [hZ,this,zeY]
  have hbl:=zg2 (l1:=R.1.l1) h.disk.puts l
  have hpl:((zeZ 0 l).map zb2).length=l.length:=by rw [List.length_map,← zdF 0 l,List.length_map,zdF]
  simp only [hpl,List.take_length]
  refine' zb9 fx
  refine (zgr (i:=4) (j:=5) (o:=0) (T:=85) (cs:= [if l.length=0 then .d .nilp else .tp 4 0,.bsl 5 (zcf x.disk R.1.l1 l).length]) (xs:=zcf x.disk R.1.l1 l) rfl rfl rfl rfl (by omega)).mono ?_
  rintro r h' ⟨rfl,rfl⟩
  simp only [go_sem,aeq,aeq.aeqF,simprocAttr,hset]
  refine' zb9 fx
  all_goals first|rfl|(rw [hall];done)|(rw [hall];rfl)|skip
 ·rw [hJ]
  rintro c h3 g3 ⟨rfl,rfl,k,e,u,v,w,he,rfl⟩
  refine' zb9 fx
  rw [he]
@[go_sem] noncomputable def zby:Ent Tryz.prog 84:= .m3 zaO (intT .i64) (intT .i64) zs7
end Go.Aw
