/-
 Parts of the proof: lemmas.
-/
import Derived.Test.YtgldbfelccddbaaGreatPart17
set_option maxRecDepth 100000
set_option maxHeartbeats 2000000
set_option linter.unusedSimpArgs false
set_option linter.unusedVariables false
namespace Go.Aw
open Go Go.Proofs
theorem IF.flush {x:Img} (h:ImgF x):IF x (zb1 x).1∧ImgF (zb1 x).1:=by
 unfold zb1
 split
 ·exact ⟨IF.refl x,h⟩
 ·have hd:=DF.flush h.disk
  have hf:=h.disk.flush
  exact ⟨⟨rfl,hd,id,rfl,fun _ _=>rfl,rfl⟩,⟨⟨hf.ok,h.ok.maps,h.ok.names,h.ok.bits⟩,hf,h.guest,h.host,h.seq0,h.seq1,h.maps⟩⟩
theorem IF.piece {x:Img} (h:ImgF x) (q:Rq) (c:Nat×Nat×Nat):IF x (tpc x q c).1∧ImgF (tpc x q c).1:=by
 unfold tpc
 split
 ·exact ⟨IF.refl x,h⟩
 split
 ·exact ⟨IF.write h _ _ _,h.write _ _ _⟩
 ·exact ⟨IF.clear1 h _ _,h.clear1 _ _⟩
theorem IF.last {x:Img} (h:ImgF x) (q:Rq) (ms:List Int):IF x (tlast x q ms).1∧ImgF (tlast x q ms).1:=by
 unfold tlast
 split
 ·exact ⟨IF.refl x,h⟩
 split
 ·exact IF.flush h
 ·exact ⟨IF.refl x,h⟩
theorem IF.step {x:Img} (h:ImgF x) (t:Tsk) (ms:List Int):IF x (tstep x t ms).1∧ImgF (tstep x t ms).1:=by
 unfold tstep
 split
 ·exact ⟨IF.refl x,h⟩
 split
 ·exact IF.piece h _ _
 ·exact IF.last h _ _
theorem zwa (n:Nat):∀a,∀q∈cuts a n,a≤q.1*128+q.2.1∧q.1*128+q.2.1+q.2.2≤a+n∧q.2.1+q.2.2≤128∧1≤q.2.2:=by
 induction n using Nat.strongRecOn with
 | _ n ih=>
  intro a q hq
  rcases Nat.eq_zero_or_pos n with rfl|h
  ·simp [zeX] at hq
  ·rw [zeq a n h,List.mem_cons] at hq
   rcases hq with rfl|hq
   ·simp only;omega
   ·have:=ih _ U _ q hq
    omega
def csz (l:List (Nat×Nat×Nat)):Nat:=(l.map fun q=>q.2.2).sum
theorem zpS (q:Nat×Nat×Nat) (l:List (Nat×Nat×Nat)):csz (q::l)=q.2.2+csz l:=by simp [csz]
theorem zjR (a b:List (Nat×Nat×Nat)):csz (a++b)=csz a+csz b:=by simp [csz,List.sum_append]
theorem zos (l:List (Nat×Nat×Nat)) (k:Nat):csz (l.take k)≤csz l:=by
 have h:=zjR (l.take k) (l.drop k)
 rw [List.take_append_drop] at h
 omega
theorem zwb (n:Nat):∀a,csz (cuts a n)=n:=by
 induction n using Nat.strongRecOn with
 | _ n ih=>
  intro a
  rcases Nat.eq_zero_or_pos n with rfl|h
  ·rfl
  ·rw [zeq a n h,zpS,ih _ U]
   simp only
   omega
theorem zgs {a n:Int} (q:Nat×Nat×Nat) (hq:q∈cutsL a n):a≤q.1*128+q.2.1∧(q.1*128+q.2.1+q.2.2:Int)≤a+n∧q.2.1+q.2.2≤128∧1≤q.2.2:=by
 unfold cutsL at hq
 split at hq
 ·cases hq
 ·have:=zwa _ _ q hq
  omega
theorem zmB {a n:Int} :csz (cutsL a n)≤n.toNat:=by
 unfold cutsL
 split
 ·exact Nat.zero_le _
 ·rw [zwb]
  exact Nat.le_refl _
theorem zjS {d:Disk} {l1:Int} :∀ (l:List (Nat×Nat×Nat)) (s:Txt),(zjQ d l1 l s).1.length≤s.length+csz l
 | [],s=>Nat.le_add_right _ _
 | q::r,s=>by
  rw [zjQ]
  split
  ·exact Nat.zero_le _
  ·have:=zjS (d:=d) (l1:=l1) r (s++((cread d l1 q.1).1.take (q.2.1+q.2.2)).drop q.2.1)
   rw [zpS]
   simp only [List.length_append,List.length_drop,List.length_take] at this
   omega
theorem ztH {x:Img} {a n:Int} :(iread x a n).1.length≤n.toNat:=by
 unfold iread
 split
 ·exact Nat.zero_le _
 split
 ·exact Nat.zero_le _
 ·have h1:=zjS (d:=x.disk) (l1:=(zR x.disk p0).1.l1) (cutsL a n) []
  have h2:=zmB (a:=a) (n:=n)
  simp only [List.length_nil] at h1
  omega
theorem ztI {x:Img} {q:Rq} {c:Nat×Nat×Nat} :(tpc x q c).2.1.length≤c.2.2:=by
 unfold tpc
 split
 ·have:=ztH (x:=x) (a:=c.1*128+c.2.1) (n:=c.2.2)
  simp only [Int.toNat_natCast] at this
  exact this
 split
 ·exact Nat.zero_le _
 ·exact Nat.zero_le _
theorem zmC {x:Img} {q:Rq} :∀ (ms:List Int) (l:List Spn),(tctxL x q ms l).1.length≤l.length+ms.length
 | [],l=>Nat.le_add_right _ _
 | k::r,l=>by
  rw [tctxL]
  split
  ·exact Nat.zero_le _
  ·have:=zmC (x:=x) (q:=q) r (l++ [⟨k,(tctx x q k).1⟩])
   simp only [List.length_append,List.length_cons,List.length_nil] at this ⊢
   omega
theorem ztJ {x:Img} {q:Rq} {ms:List Int} :(tlast x q ms).2.1.length≤ms.length:=by
 unfold tlast
 split
 ·have:=zmC (x:=x) (q:=q) ms []
  simpa using this
 split
 ·exact Nat.zero_le _
 ·exact Nat.zero_le _
structure Tiv (q:Rq) (t:Tsk):Prop where
 rq:t.q=q
 cuts:t.cuts=(tnew q).cuts
 lo:0≤t.loc
 hi:t.loc≤t.cuts.length
 fresh:t.done=false→t.spans= []∧t.err=0
 err:t.err=0∨t.err=5∨t.err=28
 data:t.data.length≤csz (t.cuts.take t.loc.toNat)
 spans:t.spans.length≤3
theorem Tiv.new (q:Rq):Tiv q (tnew q):=⟨rfl,rfl,Int.le_refl _,by simp [tnew],fun _=>⟨rfl,rfl⟩,.inl rfl,by simp [tnew],by simp [tnew]⟩
theorem zwc {α:Type} {l:List α} {k:Nat} {c:α} (h:l[k]?=some c):l.take (k+1)=l.take k++ [c]:=by
 rw [List.take_add_one,h]
 rfl
theorem Tiv.step {q:Rq} {t:Tsk} (h:Tiv q t) (x:Img) (ms:List Int) (hm:ms.length≤3):Tiv q (tstep x t ms).2:=by
 unfold tstep
 cases hd:t.done with
 |true=>rw [if_pos rfl];exact h
 | false=>
  rw [if_neg ae]
  obtain ⟨k,hk⟩:∃k:Nat,t.loc=k:=⟨t.loc.toNat,by have:=h.lo;omega⟩
  have h0:=h.fresh hd
  have hd1:=h.data
  cases hc:t.cuts[t.loc.toNat]? with
  | some c=>
   have hlt:t.loc.toNat<t.cuts.length:=(List.getElem?_eq_some_iff.1 hc).1
   have hl:=ztI (x:=x) (q:=t.q) (c:=c)
   have hts:=zwc hc
   have e1:(t.loc+1).toNat=t.loc.toNat+1:=U
   simp only
   split
   ·exact ⟨h.rq,h.cuts,by simp only [tfail];omega,by simp only [tfail];omega,fun hh=>by simp [tfail] at hh,by simp only [tfail];split<;>simp,by simp [tfail],by simp [tfail]⟩
   ·refine ⟨h.rq,h.cuts,au,au,fun _=>h0,h.err,?_,h.spans⟩
    simp only
    rw [e1,hts,zjR,List.length_append]
    have:csz [c]=c.2.2:=by simp [csz]
    omega
  |none=>
   have hl:=ztJ (x:=x) (q:=t.q) (ms:=ms)
   simp only
   split
   ·exact ⟨h.rq,h.cuts,h.lo,h.hi,fun hh=>by simp [tfail] at hh,by simp only [tfail];split<;>simp,by simp [tfail],by simp [tfail]⟩
   ·exact ⟨h.rq,h.cuts,h.lo,h.hi,fun hh=>by simp at hh,h.err,h.data,au⟩
theorem zq6 {x:Img} {t:Tsk} {ms:List Int} (h:t.done=true):tstep x t ms=(x,t):=by
 unfold tstep
 rw [if_pos h]
theorem zmD:∀ (l:List Ext) (s:Txt),(rrows l s).1.length≤s.length+8*l.length
 | [],s=>by simp [rrows]
 | e::r,s=>by
  rw [rrows]
  split
  ·have:=zmD r (s++putN e.len.toNat 4++putN e.flags.toNat 4)
   simp only [List.length_append,zu,List.length_cons] at this ⊢
   omega
  ·exact Nat.zero_le _
theorem zot {c:Int} {l:List Ext} :(zdV c l).1.length≤4004:=by
 unfold zdV
 split
 ·exact Nat.zero_le _
 ·have:=zmD l (putN c.toNat 4)
  rw [zu] at this
  omega
open Go Go.Proofs
theorem zwg (o:List Ext) (r x:Ext):jst (o++ [r]) x=if r.flags=x.flags then o++ [⟨r.len+x.len,x.flags⟩] else o++ [r]++ [x]:=by
 simp only [jst,List.getLast?_append,List.getLast?_singleton,Option.or_some,Option.some_or,List.dropLast_concat]
theorem ztV (o:List Ext) (x:Ext):(jst o x).length≤o.length+1∧jst o x≠ []:=by
 unfold jst
 split
 ·rename_i y hy
  have hne:o≠ []:=by rintro rfl;cases hy
  split
  ·refine ⟨?_,aa⟩
   simp only [List.length_append,List.length_dropLast,List.length_singleton]
   omega
  ·exact ⟨aa,aa⟩
 ·exact ⟨aa,aa⟩
theorem ziE:∀ (l o:List Ext),(l.foldl jst o).length≤o.length+l.length∧(o≠ []∨l≠ []→l.foldl jst o≠ [])
 | [],o=>⟨Nat.le_refl _,fun h=>by rcases h with h|h;exact h;exact absurd rfl h⟩
 |x::l,o=>by
  rw [List.foldl_cons]
  obtain ⟨h1,h2⟩:=ztV o x
  obtain ⟨h3,h4⟩:=ziE l (jst o x)
  exact ⟨dg,fun _=>h4 (.inl h2)⟩
theorem ztW (l:List Ext):(ejoin l).length≤l.length:=by
 have:=(ziE l []).1
 simpa [ejoin] using this
theorem zwh {l:List Ext} (h:l≠ []):ejoin l≠ []:=(ziE l []).2 (.inr h)
theorem ztX {f:Int→Int×Int} :∀ (c:List (Nat×Nat×Nat)) (l:List Ext),(c≠ []∨l≠ [])→(spL f c l).2=0→(spL f c l).1≠ []
 | [],l,h,_=>by
  rw [spL]
  exact zwh (by rcases h with h|h;exact absurd rfl h;exact h)
 | q::r,l,_,he=>by
  rw [spL] at he ⊢
  split at he
  ·rename_i h;exact absurd he h
  ·rename_i h
   rw [if_neg h]
   exact ztX r _ (.inr aa) he
theorem zoy {f:Int→Int×Int} :∀ (c:List (Nat×Nat×Nat)) (l:List Ext),(spL f c l).1.length≤l.length+c.length
 | [],l=>ztW l
 | q::r,l=>by
  rw [spL]
  split
  ·exact Nat.zero_le _
  ·have:=zoy (f:=f) r (l++ [⟨q.2.2,(f q.1).1⟩])
   simp only [List.length_append,List.length_cons,List.length_nil] at this ⊢
   omega
theorem zpX {a n:Int} (h0:0≤a) (h1:1≤n) (h2:a≤1073741824) (h3:n≤65536):cutsL a n≠ []:=by
 rw [cutsL,if_neg U,zeq _ _ U]
 simp
theorem zrb {x:Img} {l1 a n:Int} (hg:x.geom.guest≤64) (h:(zc4 x l1 a n).2=0):(zc4 x l1 a n).1≠ []:=by
 unfold zc4 at h ⊢
 split at h
 ·cases h
 ·rename_i h1
  rw [if_neg h1]
  simp only [not_or,Bool.not_eq_false] at h1
  have h2:=inB_iff.1 h1.2
  exact ztX _ _ (.inl (zpX h2.1 U U U)) h
theorem ztY {x:Img} {m:Txt} {a n:Int} (hg:x.geom.guest≤64) (h:(zeG x m a n).2=0):(zeG x m a n).1≠ []:=by
 unfold zeG at h ⊢
 split at h
 ·cases h
 ·rename_i h1
  rw [if_neg h1]
  simp only [not_or,Bool.not_eq_false] at h1
  have h2:=inB_iff.1 h1.2
  split at h
  ·cases h
  ·rename_i hm
   exact ztX _ _ (.inl (zpX h2.1 U U U)) h
open Go Go.Proofs
theorem zmK (g:Geom) (a n:Int) (hp:0≤g.guest∧g.guest≤1000000):AC 265 [geomA g,.d (.int .i64 a),.d (.int .i64 n)] (.d (.bool (inB g.guest a n))):=by
 obtain ⟨h0,h1⟩:=hp
 refine fbod Tryz.func265 Tryz.ntmps265 (fun base=>?_)
 have hw:IntKind.i64.wrap (g.guest*128)=128*g.guest:=aE
 have hx:(decide (0≤a)&&decide (0≤n)&&decide (n≤128*g.guest)&&decide (a≤IntKind.i64.wrap (128*g.guest - n)))=inB g.guest a n:=by
  unfold inB
  by_cases h:0≤n∧n≤128*g.guest
  ·rw [zi U U]
  ·rcases Int.lt_or_le n 0 with h2|h2
   ·rw [decide_eq_false (p:=0≤n) U];simp
   ·rw [decide_eq_false (p:=n≤128*g.guest) U];simp
 refine' zc (zj hw hx)
@[go_sem] noncomputable def zD:Ent Tryz.prog 265:= .m3 zfU (intT .i64) (intT .i64) zmK
abbrev Cust (x y:Nat):= { q:List (Nat×Nat×Nat)×Nat×Nat // q.1++cuts q.2.1 q.2.2=cuts x y∧q.2.1+q.2.2≤x+y∧q.1.length+q.2.2≤y }
theorem ztZ (a n:Int) (_:True):AC 115 [.d (.int .i64 a),.d (.int .i64 n)] (.d (.sl 3 ((cutsL a n).map cutD))):=by
 refine fbod Tryz.func115 Tryz.ntmps115 (fun base=>?_)
 cases hb:(decide (a<0)||decide (n<0)||decide (1073741824<a)||decide (65536<n)) with
 |true=>
  refine' zc hb
  rw [cutsL,if_pos (by simpa [or_assoc] using hb)]
  rfl
 | false=>
  have hb':¬(a<0∨n<0∨1073741824<a∨65536<n):=by simp at hb;omega
  obtain ⟨x,rfl⟩:∃x:Nat,a=x:=⟨a.toNat,U⟩
  obtain ⟨y,rfl⟩:∃y:Nat,n=y:=⟨n.toNat,U⟩
  have hZ:cutsL (x:Int) (y:Int)=cuts x y:=by rw [cutsL,if_neg hb'];rfl
  rw [hZ]
  refine' zc hb
  refine zaI 5 3 rfl ?_
  simp only [fresh,top,hget, ↓reduceIte]
  refine zk (fun q:Cust x y=>⟨[(0,true,.d (.int .i64 q.1.2.1)),(1,true,.d (.int .i64 q.1.2.2)),(5,true,.osl 0 3 q.1.1.length 0 q.1.1.length)],[(0,.arr 3 (q.1.1.map cutD))],some []⟩) (fun q=>q.1.2.2) ⟨([],x,y),rfl,Nat.le_refl _,aa⟩ le1 (fun q=>?_)
  obtain ⟨⟨l,a',n'⟩,he,hbq,hl⟩:=q
  simp only at he hbq hl ⊢
  rcases Nat.eq_zero_or_pos n' with hn0|hn0
  ·have hg:decide ((0:Int)<(n':Int))=false:=decide_eq_false U
   refine' zc hg
   rw [hn0,zeX,List.append_nil] at he
   rw [he]
  ·have hg:decide ((0:Int)<(n':Int))=true:=decide_eq_true U
   obtain ⟨m,hm⟩:∃m,m=min n' (128 - a' % 128):=⟨_,rfl⟩
   have hq:IntKind.i64.wrap ((a':Int).tdiv 128)=((a' / 128:Nat):Int):=by
    rw [Int.tdiv_eq_ediv_of_nonneg U,IntKind.wrap_i64];omega
   have hr:(a':Int).tmod 128=((a' % 128:Nat):Int):=by
    rw [Int.tmod_eq_emod_of_nonneg U];omega
   have hs:IntKind.i64.wrap (128 - ((a' % 128:Nat):Int))=((128 - a' % 128:Nat):Int):=aS
   have hmin:imin (n':Int) ((128 - a' % 128:Nat):Int)=(m:Int):=by
    unfold imin
    split<;>omega
   have hadd:IntKind.i64.wrap ((a':Int)+(m:Int))=((a'+m:Nat):Int):=aS
   have hsub:IntKind.i64.wrap ((n':Int) - (m:Int))=((n' - m:Nat):Int):=aS
   rw [zeq a' n' hn0,← hm] at he
   refine' zc (zo hg hq hr hs hmin (zj hadd hsub))
   exact ⟨⟨(l++ [(a' / 128,a' % 128,m)],a'+m,n' - m),aj,au,ei⟩,by simp only [List.map_append,List.length_append,List.length_singleton];simp only [AS.le,leT,leH,zf,AsgK,AV.le,AV.leL,AObj.le,inH,idsT,idsH,AV.ids,AV.idsL,AV.idsR,AObj.ids,lk,hget,go_sem,aeq,aeq.aeqF,simprocAttr]<;>and_intros<;>rfl,au⟩
@[go_sem] noncomputable def zW:Ent Tryz.prog 115:= .m2 (intT .i64) (intT .i64) ztZ
theorem zoz (y:Ent2) (_:True):AC 273 [entA y] (.d (.int .i64 (ziy y))):=by
 refine fbod Tryz.func273 Tryz.ntmps273 (fun base=>?_)
 refine' zc fx
 ·rw [ziy,if_pos (beqP hc)]
 ·rename_i h1
  rw [ziy,if_neg (beqN h1),if_pos (beqP hc)]
 ·rename_i h1
  rw [ziy,if_neg (beqN h1),if_neg (beqN hc)]
@[go_sem] noncomputable def zcq:Ent Tryz.prog 273:= .m1 zjJ zoz
theorem zx2 {o:List Ext} {x:Ext} {k:Int} (h:∀y∈o,1≤y.len∧y.len≤k) (hx0:1≤x.len) (hx:x.len≤128) (hk:0≤k):∀y∈jst o x,1≤y.len∧y.len≤k+128:=by
 intro y hy
 unfold jst at hy
 split at hy
 ·rename_i z hz
  have hzm:=h z (List.mem_of_getLast? hz)
  split at hy
  ·rcases List.mem_append.1 hy with hy|hy
   ·have:=h y (List.dropLast_subset _ hy)
    omega
   ·rw [List.mem_singleton] at hy
    subst hy
    simp only
    omega
  ·rcases List.mem_append.1 hy with hy|hy
   ·have:=h y hy
    omega
   ·rw [List.mem_singleton] at hy
    subst hy
    omega
 ·rw [List.mem_singleton] at hy
  subst hy
  omega
theorem zrc (l:List Ext) (hp:l.length≤65536∧(∀x∈l,1≤x.len∧x.len≤128)):AC 274 [.d (.sl 2 (l.map extD))] (.d (.sl 2 ((ejoin l).map extD))):=by
 obtain ⟨hl,h⟩:=hp
 refine fbod Tryz.func274 Tryz.ntmps274 (fun base=>?_)
 obtain ⟨Z,hZ⟩:∃Z,Z=ejoin l:=⟨_,rfl⟩
 rw [← hZ]
 rw [ejoin] at hZ
 refine' zc fx
 refine zaI 3 2 rfl ?_
 simp only [fresh,top,hget, ↓reduceIte]
 refine zk (fun q: { q:Nat×List Ext // q.1≤l.length∧Z=(l.drop q.1).foldl jst q.2∧q.2.length≤q.1∧∀y∈q.2,1≤y.len∧y.len≤128*(q.1:Int) } =>⟨[(0,true,.d (.sl 2 (l.map extD))),(3,true,.osl 0 2 q.1.2.length 0 q.1.2.length),(4,true,.d (.int .i64 q.1.1))],[(0,.arr 2 (q.1.2.map extD))],some []⟩) (fun q=>l.length - q.1.1) ⟨(0,[]),Nat.zero_le _,hZ,Nat.le_refl _,aa⟩ le1 (fun q=>?_)
 obtain ⟨⟨i,o⟩,hi,hf,hol,ho⟩:=q
 simp only at hi hf hol ho ⊢
 rcases zy extD l i hi with ⟨x,hq,hlt,hcmp,hrow,hdr,htk⟩|⟨hend,hcmp⟩
 ·simp only [extD] at hrow
  have hwi:=zn (i:=i) U
  obtain ⟨hx0,hx1⟩:=h x (List.mem_of_getElem? hq)
  rw [hdr,List.foldl_cons] at hf
  have hjl:=(ztV o x).1
  have hjr:=zx2 ho hx0 hx1 U
  have hn1:decide (x.len<1)=false:=decide_eq_false U
  have hm1:imin x.len 1099511627776=x.len:=bl
  have hst:∀o',o'=jst o x→(∃q': { q:Nat×List Ext // q.1≤l.length∧Z=(l.drop q.1).foldl jst q.2∧q.2.length≤q.1∧∀y∈q.2,1≤y.len∧y.len≤128*(q.1:Int) },q'.1=(i+1,o')):=by
   rintro o' rfl
   exact ⟨⟨(i+1,jst o x),U,hf,au,fun y hy=>by have:=hjr y hy;simp only;omega⟩,rfl⟩
  rcases List.eq_nil_or_concat o with rfl|⟨p,r,rfl⟩
  ·refine' zc (zE hcmp hrow hn1 hm1)
   obtain ⟨q',hq'⟩:=hst [x] rfl
   exact ⟨q',by rw [hq'];simp only [AS.le,leT,leH,zf,AsgK,AV.le,AV.leL,AObj.le,inH,idsT,idsH,AV.ids,AV.idsL,AV.idsR,AObj.ids,lk,hget,go_sem,aeq,aeq.aeqF,simprocAttr,hwi,extD]<;>and_intros<;>rfl,ca⟩
  ·rw [List.concat_eq_append] at hf hol ho hjl hjr hst ⊢
   have hr:=ho r aa
   have hln:(p++ [r]).length=p.length+1:=aa
   have hgt:decide ((0:Int)<((p.length+1:Nat):Int))=true:=decide_eq_true U
   have hw:IntKind.i64.wrap (((p.length+1:Nat):Int) - 1)=(p.length:Int):=aE
   have hrr:((p++ [r]).map extD).getD p.length []=extD r:=by simp [List.getD_eq_getElem?_getD]
   simp only [extD] at hrr
   rw [zwg] at hst
   cases he:(r.flags==x.flags) with
   |true=>
    rw [if_pos aj] at hst
    have hm2:imin r.len 1099511627776=r.len:=bl
    have hm3:imin (r.len+x.len) 1099511627776=r.len+x.len:=bl
    have hw3:IntKind.i64.wrap (r.len+x.len)=r.len+x.len:=zi U U
    obtain ⟨M,hM⟩:∃M:List (List D),M=(p++ [(⟨r.len+x.len,r.flags⟩:Ext)]).map extD:=⟨_,rfl⟩
    have hs1:((p++ [r]).map extD).set p.length [D.int .i64 (r.len+x.len),D.int .i64 r.flags]=M:=by rw [hM];simp [extD]
    have hs2:M.set p.length [D.int .i64 (r.len+x.len),D.int .i64 r.flags]=M:=by rw [hM];simp [extD]
    have hMl:M.length=p.length+1:=by rw [hM];simp
    have hMr:M.getD p.length []= [D.int .i64 (r.len+x.len),D.int .i64 r.flags]:=by rw [hM];simp [extD,List.getD_eq_getElem?_getD]
    refine' zc (zo hcmp hrow hn1 hm1 hln (zo hgt hw hrr he hm2 (zo hm3 hw3 hs1 hs2 hMl (zj hMr natC))))
    all_goals first|omega|skip
    obtain ⟨q',hq'⟩:=hst _ rfl
    have hfx:x.flags=r.flags:=(by simpa using he:r.flags=x.flags).symm
    exact ⟨q',by rw [hq',hfx,hM];simp only [List.length_append,List.length_singleton];simp only [AS.le,leT,leH,zf,AsgK,AV.le,AV.leL,AObj.le,inH,idsT,idsH,AV.ids,AV.idsL,AV.idsR,AObj.ids,lk,hget,go_sem,aeq,aeq.aeqF,simprocAttr,hwi]<;>and_intros<;>rfl,ca⟩
   |false=>
    rw [if_neg aj] at hst
    refine' zc (zo hcmp hrow hn1 hm1 hln (zaB hgt hw hrr he natC))
    all_goals first|omega|skip
    obtain ⟨q',hq'⟩:=hst _ rfl
    exact ⟨q',by rw [hq'];simp only [List.length_append,List.length_singleton,List.map_append,List.map_cons,List.map_nil];simp only [AS.le,leT,leH,zf,AsgK,AV.le,AV.leL,AObj.le,inH,idsT,idsH,AV.ids,AV.idsL,AV.idsR,AObj.ids,lk,hget,go_sem,aeq,aeq.aeqF,simprocAttr,hwi,extD]<;>and_intros<;>rfl,ca⟩
 ·refine' zc hcmp
  rw [hf,hend,List.drop_length]
  rfl
@[go_sem] noncomputable def zas:Ent Tryz.prog 274:= .m1 (slT 2 extD zgq) zrc
open Go Go.Proofs
theorem zrr (x:Img) (hp:0≤x.geom.guest∧x.geom.guest≤1000000):AC 118 [imgA x] (.d (.int .i64 (128*x.geom.guest))):=by
 obtain ⟨h0,h1⟩:=hp
 refine fbod Tryz.func118 Tryz.ntmps118 (fun base=>?_)
 have hw:IntKind.i64.wrap (128*x.geom.guest)=128*x.geom.guest:=zi U U
 refine' zc hw
@[go_sem] noncomputable def zmU:Ent Tryz.prog 118:= .m1 zbk zrr
theorem zoI (x:Img) (h:ImgF x):AC 123 [imgA x] (.tup [imgA (zb1 x).1,.d (.int .i64 (zb1 x).2)]):=by
 refine fbod Tryz.func123 Tryz.ntmps123 (fun base=>?_)
 have hdo:=h.disk.ok
 have hdp:=h.disk.puts
 cases hb:x.broken with
 |true=>
  refine' walkW hb (za zaU <| zb _)
  rw [zb1,if_pos hb,hb]
 |false=>
  obtain ⟨F,hF⟩:∃F,F=dflush x.disk:=⟨_,rfl⟩
  refine' walkW (zj hb hF.symm) (za zaU <| zb _)
  rw [zb1,if_neg bH,← hF]
@[go_sem] noncomputable def zaP:Ent Tryz.prog 123:= .m1 zbk zoI
theorem zrs (x:Img) (a n:Int) (hp:ImgF x∧0≤x.geom.guest):AC 196 [imgA x,.d (.int .i64 a),.d (.int .i64 n)] (.tup [.d (.str (iread x a n).1),.d (.int .i64 (iread x a n).2)]):=by
 obtain ⟨h,h0⟩:=hp
 refine fbod Tryz.func196 Tryz.ntmps196 (fun base=>?_)
 have hgu:=h.guest
 have hdf:=h.disk
 have hdp:DP x.disk p0:=⟨h.disk,zdw⟩
 obtain ⟨Z,hZ⟩:∃Z,Z=iread x a n:=⟨_,rfl⟩
 rw [← hZ]
 rw [iread] at hZ
 cases hb:inB x.geom.guest a n with
 |false=>
  rw [hb,if_pos rfl] at hZ
  refine' walkW hb (za zD <| za zw <| za zW <| za zY <| zb _)
  rw [hZ]
 | true=>
  rw [hb,if_neg ae] at hZ
  obtain ⟨R,hR⟩:∃R,R=zR x.disk p0:=⟨_,rfl⟩
  rw [← hR] at hZ
  obtain ⟨l,hl⟩:∃l,l=cutsL a n:=⟨_,rfl⟩
  have hll:l.length≤65536:=by rw [hl];exact zd3 a n
  have hrg:∀q∈l,q.2.1+q.2.2≤128:=by rw [hl];exact fun q hq=>(zgs q hq).2.2.1
  rw [← hl] at hZ
  refine' walkW (zq hb hR.symm hl.symm) (za zD <| za zw <| za zW <| za zY <| zb _)
  ·rw [hZ,if_pos (bneP hc)]
  ·rw [if_neg (bneN hc)] at hZ
   refine zk (fun q: { q:Nat×Txt // q.1≤l.length∧q.2.length≤128*q.1∧Z=zjQ x.disk R.1.l1 (l.drop q.1) q.2 } =>⟨[(3,true,.vp 0 0),(8,true,.vp 1 0),(10,true,.d (.str q.1.2)),(11,true,.d (.sl 3 (l.map cutD))),(12,true,.d (.int .i64 q.1.1))],[(1,.var [.d (.int .i64 R.1.l1),.d (.int .u32 R.1.next)]),(0,.var (imgV x))],some []⟩) (fun q=>l.length - q.1.1) ⟨(0,[]),Nat.zero_le _,Nat.le_refl _,hZ⟩ le1 (fun q=>?_)
   obtain ⟨⟨i,s⟩,hi,hs,hf⟩:=q
   simp only at hi hs hf ⊢
   rcases zy cutD l i hi with ⟨⟨c0,c1,c2⟩,hq,hlt,hcmp,hrow,hdr,htk⟩|⟨hend,hcmp⟩
   ·simp only [cutD] at hrow
    have hwi:=zn (i:=i) U
    have hcr:=hrg _ (List.mem_of_getElem? hq)
    simp only at hcr
    rw [hdr,zjQ] at hf
    obtain ⟨C,hC⟩:∃C,C=cread x.disk R.1.l1 c0:=⟨_,rfl⟩
    have hwc:IntKind.i64.wrap ((c1:Int)+(c2:Int))=((c1+c2:Nat):Int):=aE
    have hcl:C.2=0→C.1.length=128:=by rw [hC];exact zit h.disk.puts
    simp only at hf
    rw [← hC] at hf
    cases he:(C.2 !=0) with
    |true=>
     rw [if_pos aj] at hf
     refine' walkW (zE hcmp hrow hC.symm he) (za zD <| za zw <| za zW <| za zY <| zb _)
     rw [hf]
    |false=>
     rw [if_neg aj] at hf
     have hcl2:=hcl aj
     have htl:(List.drop c1 (List.take (c1+c2) C.1)).length≤128:=by rw [List.length_drop,List.length_take];omega
     refine' walkW (zo hcmp hrow hC.symm he hwc natC) (za zD <| za zw <| za zW <| za zY <| zb _)
     all_goals first|omega|skip
     exact ⟨⟨(i+1,s++List.drop c1 (List.take (c1+c2) C.1)),U,ba,hf⟩,lev,af⟩
   ·refine' walkW hcmp (za zD <| za zw <| za zW <| za zY <| zb _)
    rw [hf,hend,List.drop_length]
    rfl
@[go_sem] noncomputable def zbs:Ent Tryz.prog 196:= .m3 zbk (intT .i64) (intT .i64) zrs
theorem zx8 {d:Disk} {l1:Int} {Z:List Ext×Int} {c0 c1 c2:Nat} {r:List (Nat×Nat×Nat)} {o:List Ext} (h:Z=spL (elkF d l1) ((c0,c1,c2)::r) o):Z=if (elook d p0 l1 c0).2≠0 then ([],(elook d p0 l1 c0).2) else spL (elkF d l1) r (o++ [⟨c2,ziy (elook d p0 l1 c0).1⟩]):=by rw [h,spL];rfl
theorem zmV (x:Img) (l1 a n:Int) (hp:ImgF x∧0≤x.geom.guest):AC 199 [imgA x,.d (.int .i64 l1),.d (.int .i64 a),.d (.int .i64 n)] (.tup [.d (.sl 2 ((zc4 x l1 a n).1.map extD)),.d (.int .i64 (zc4 x l1 a n).2)]):=by
 obtain ⟨h,h0⟩:=hp
 refine fbod Tryz.func199 Tryz.ntmps199 (fun base=>?_)
 have hgu:=h.guest
 have hdf:=h.disk
 have hdp:DP x.disk p0:=⟨h.disk,zdw⟩
 obtain ⟨Z,hZ⟩:∃Z,Z=zc4 x l1 a n:=⟨_,rfl⟩
 rw [← hZ]
 rw [zc4] at hZ
 by_cases hr:n<1∨inB x.geom.guest a n=false
 ·rw [if_pos hr] at hZ
  have hdec:(decide (n<1)|| !inB x.geom.guest a n)=true:=aA
  refine' walkW hdec (za zD <| za zW <| za zF <| za zcq <| za zas <| zb _)
  rw [hZ]
  rfl
 ·rw [if_neg hr] at hZ
  have hdec:(decide (n<1)|| !inB x.geom.guest a n)=false:=aA
  obtain ⟨l,hl⟩:∃l,l=cutsL a n:=⟨_,rfl⟩
  have hll:l.length≤65536:=by rw [hl];exact zd3 a n
  have hrg:∀q∈l,1≤q.2.2∧q.2.2≤128:=by rw [hl];exact fun q hq=>⟨(zgs q hq).2.2.2,zk6 a n q hq⟩
  rw [← hl] at hZ
  refine' walkW (zj hdec hl.symm) (za zD <| za zW <| za zF <| za zcq <| za zas <| zb _)
  refine zaI 10 2 rfl ?_
  simp only [fresh,top,hget, ↓reduceIte]
  refine zk (fun q: { q:Nat×List Ext // q.1≤l.length∧q.2.length=q.1∧(∀y∈q.2,1≤y.len∧y.len≤128)∧Z=spL (elkF x.disk l1) (l.drop q.1) q.2 } =>⟨[(1,true,.d (.int .i64 l1)),(4,true,.vp 0 0),(10,true,.osl 1 2 q.1.2.length 0 q.1.2.length),(11,true,.d (.sl 3 (l.map cutD))),(12,true,.d (.int .i64 q.1.1))],[(1,.arr 2 (q.1.2.map extD)),(0,.var (imgV x))],some []⟩) (fun q=>l.length - q.1.1) ⟨(0,[]),Nat.zero_le _,rfl,aa,hZ⟩ le1 (fun q=>?_)
  obtain ⟨⟨i,o⟩,hi,hol,ho,hf⟩:=q
  simp only at hi hol ho hf ⊢
  rcases zy cutD l i hi with ⟨⟨c0,c1,c2⟩,hq,hlt,hcmp,hrow,hdr,htk⟩|⟨hend,hcmp⟩
  ·simp only [cutD] at hrow
   have hwi:=zn (i:=i) U
   have hcr:=hrg _ (List.mem_of_getElem? hq)
   rw [hdr] at hf
   have hf:=zx8 hf
   simp only at hcr
   obtain ⟨C,hC⟩:∃C,C=elook x.disk p0 l1 c0:=⟨_,rfl⟩
   rw [← hC] at hf
   cases he:(C.2 !=0) with
   |true=>
    rw [if_pos aj] at hf
    refine' walkW (zE hcmp hrow hC.symm he) (za zD <| za zW <| za zF <| za zcq <| za zas <| zb _)
    rw [hf]
    rfl
   | false=>
    rw [if_neg aj] at hf
    refine' walkW (zE hcmp hrow hC.symm he) (za zD <| za zW <| za zF <| za zcq <| za zas <| zb _)
    all_goals first|omega|skip
    exact ⟨⟨(i+1,o++ [⟨c2,ziy C.1⟩]),U,by simp [hol],fun y hy=>by
     rcases List.mem_append.1 hy with hy|hy
     ·exact ho y hy
     ·rw [List.mem_singleton] at hy
      subst hy
      simp only
      omega,hf⟩,by simp only [List.map_append,List.length_append,List.length_singleton];simp only [AS.le,leT,leH,zf,AsgK,AV.le,AV.leL,AObj.le,inH,idsT,idsH,AV.ids,AV.idsL,AV.idsR,AObj.ids,lk,hget,go_sem,aeq,aeq.aeqF,simprocAttr,hwi]<;>and_intros<;>rfl,af⟩
  ·rw [hend,List.drop_length,spL] at hf
   have hol2:o.length≤65536:=U
   refine zbh 1 rfl ?_;simp only [go_sem,aeq,aeq.aeqF,simprocAttr]
   refine' walkW hcmp (za zD <| za zW <| za zF <| za zcq <| za zas <| zb _)
   all_goals first|omega|exact ho|skip
   rw [hf]
@[go_sem] noncomputable def zbC:Ent Tryz.prog 199:= .m4 zbk (intT .i64) (intT .i64) (intT .i64) zmV
open Go Go.Proofs
theorem zoJ (k:Int) (ch:Bool) (_:True):AC 194 [.d (.int .i64 k),.d (.bool ch)] (.d (.int .i64 (zb2 k ch))):=by
 refine fbod Tryz.func194 Tryz.ntmps194 (fun base=>?_)
 obtain ⟨Z,hZ⟩:∃Z,Z=zb2 k ch:=⟨_,rfl⟩
 rw [← hZ]
 unfold zb2 at hZ
 by_cases h:k=0∨k=1∨k=4∨k=6∨k=3∨k=2∨k=7
 ·rcases h with rfl|rfl|rfl|rfl|rfl|rfl|rfl
  ·cases ch with
   |true=>
    refine' zc fx
    rw [hZ];rfl
   |false=>
    refine' zc fx
    rw [hZ];rfl
  all_goals
   refine' zc fx
   rw [hZ]
   rfl
 ·have e0:(k==0)=false:=by rw [beq_eq_false_iff_ne];omega
  have e1:(k==1)=false:=aI
  have e4:(k==4)=false:=aI
  have e6:(k==6)=false:=aI
  have e3:(k==3)=false:=aI
  have e2:(k==2)=false:=aI
  have e7:(k==7)=false:=aI
  rw [if_neg U,if_neg U,if_neg U,if_neg U,if_neg U] at hZ
  refine' zc (zo e0 e1 e4 e6 e3 (zj e2 e7))
  rw [hZ]
@[go_sem] noncomputable def zZ:Ent Tryz.prog 194:= .m2 (intT .i64) boolT zoJ
theorem zmW (x:Img) (hp:ImgOk x∧0≤x.geom.guest∧x.geom.guest≤1000000∧x.maps.length≤1000000):AC 59 [imgA x] (.agg [.d (.int .u64 (128*x.geom.guest)),.d (.sl 1 ((x.maps.map (fun m=>m.name)).map strD))]):=by
 obtain ⟨h,h0,h1,hm⟩:=hp
 refine fbod Tryz.func59 Tryz.ntmps59 (fun base=>?_)
 have hw:IntKind.u64.wrap (128*x.geom.guest)=128*x.geom.guest:=zA U U
 refine' walkW hw (za zmU <| zb _)
 refine zeO 2 1 1 (cs:= [.d (.int .u64 (128*x.geom.guest)),.nils 1]) rfl rfl ?_
 simp only [go_sem,aeq,aeq.aeqF,simprocAttr]
 refine zk (fun q: { i:Nat // i≤x.maps.length } =>⟨[(1,true,.vp 0 0),(2,true,.vp 1 0),(3,true,.vp 2 0),(4,true,.d (.int .i64 q.1))],[(3,.arr 1 (((x.maps.take q.1).map (fun m=>m.name)).map strD)),(2,.var [.d (.int .u64 (128*x.geom.guest)),.osl 3 1 q.1 0 q.1]),(1,.var [.d (.int .u64 0),.nils 1]),(0,.var (imgV x))],some []⟩) (fun q=>x.maps.length - q.1) ⟨0,Nat.zero_le _⟩ le1 (fun q=>?_)
 obtain ⟨i,hi⟩:=q
 simp only at hi ⊢
 have htl:(((x.maps.take i).map (fun m=>m.name)).map strD).length=i:=af
 rcases zy dmapD x.maps i hi with ⟨m,hq,hlt,hcmp,hrow,hdr,htk⟩|⟨hend,hcmp⟩
 ·simp only [dmapD] at hrow
  have hwi:=zn (i:=i) U
  refine' zc (zq hcmp hrow htl)
  all_goals first|omega|skip
  exact ⟨⟨i+1,U⟩,dD,af⟩
 ·refine' zc (zj hcmp htl)
  rw [hend,List.take_length,List.take_of_length_le aa]
@[go_sem] noncomputable def zbD:Ent Tryz.prog 59:= .m1 zbk zmW
theorem zmX (k:Int) (_:True):AC 114 [.d (.int .i64 k)] (.d (.bool (isPc k))):=by
 refine fbod Tryz.func114 Tryz.ntmps114 (fun base=>?_)
 refine' zc fx
 rfl
@[go_sem] noncomputable def zfC:Ent Tryz.prog 114:= .m1 (intT .i64) zmX
theorem zqb {q:Rq} (h:(isPc q.kind&&decide (q.frm<1073741824))=true):tnew q=⟨q,cutsL q.frm q.len,0,0,[],[],false⟩:=by
 rw [Bool.and_eq_true,decide_eq_true_eq] at h
 rw [tnew,if_pos h]
theorem zll {q:Rq} (h:(isPc q.kind&&decide (q.frm<1073741824))=false):tnew q=⟨q,[],0,0,[],[],false⟩:=by
 rw [← Bool.not_eq_true,Bool.and_eq_true,decide_eq_true_eq] at h
 rw [tnew,if_neg h]
theorem zur (q:Rq) (h:RqOk q):AC 53 [rqA q] (tskA (tnew q)):=by
 refine fbod Tryz.func53 Tryz.ntmps53 (fun base=>?_)
 have hl0:=h.l0
 have hl1:=h.l1
 have hf0:=h.f0
 have hf1:=h.f1
 cases hb:(isPc q.kind&&decide (q.frm<1073741824)) with
 |true=>
  have hb2:q.frm<1073741824:=by simp only [Bool.and_eq_true,decide_eq_true_eq] at hb;exact hb.2
  have hw1:IntKind.i64.wrap q.frm=q.frm:=zi U U
  have hw2:IntKind.i64.wrap q.len=q.len:=zi U U
  refine' walkW (zq hb hw1 hw2) (za zfC <| za zW <| zb _)
  rw [zqb hb]
  rfl
 |false=>
  refine' walkW hb (za zfC <| za zW <| zb _)
  rw [zll hb]
  rfl
@[go_sem] noncomputable def zdA:Ent Tryz.prog 53:= .m1 rqA_T zur
theorem zwz (q:Rq):(tnew q).cuts.length≤65536:=by
 unfold tnew
 simp only
 split
 ·exact zd3 _ _
 ·exact Nat.zero_le _
theorem zmY (t:Tsk) (e:Int) (_:True):AC 124 [tskA t,.d (.int .i64 e)] (tskA (tfail t e)):=by
 refine fbod Tryz.func124 Tryz.ntmps124 (fun base=>?_)
 refine' zc fx
 ·rw [tfail,if_pos (beqP hc)]
  rfl
 ·rw [tfail,if_neg (beqN hc)]
  rfl
@[go_sem] noncomputable def zJ:Ent Tryz.prog 124:= .m2 zgr (intT .i64) zmY
end Go.Aw
