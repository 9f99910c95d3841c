/-
 Parts of the proof: lemmas.
-/
import Derived.Test.YtgldbfelccddbaaGreatPart16
set_option maxRecDepth 100000
set_option maxHeartbeats 2000000
set_option linter.unusedSimpArgs false
set_option linter.unusedVariables false
namespace Go.Aw
open Go Go.Proofs
theorem DiskF.commit {d:Disk} (h:DiskF d) (j:Jour) (p:Plan):DiskF (jcommit d j p).1:=by
 have h1:=h.flush
 have h2:∀l,DiskF (Aw.layL (Aw.dflush d).1 l).1:=fun l=>DiskF.layL l h1
 have h3:∀l,DiskF (Aw.dflush (Aw.layL (Aw.dflush d).1 l).1).1:=fun l=>(h2 l).flush
 have h4:∀l,DiskF (Aw.play (Aw.dflush (Aw.layL (Aw.dflush d).1 l).1).1 p).1:=fun l=>(h3 l).play p
 unfold Aw.jcommit Aw.jtail
 repeat' split
 all_goals first|exact h|exact h1|exact h2 _|exact h3 _|exact h4 _
theorem zom {d:Disk} {j:Jour} {p:Plan} (h0:0≤j.seq) (h1:j.seq≤4611686018427387904):0≤(jcommit d j p).2.1.seq∧(jcommit d j p).2.1.seq≤4611686018427387904:=by
 unfold jcommit jtail
 repeat' split
 all_goals first|exact ⟨h0,h1⟩|(constructor<;>simp only<;>omega)
theorem ImgF.done {x:Img} (h:ImgF x) (p:Plan):ImgF (cdone x p).1:=by
 have hd:=h.disk.commit x.jour p
 have hs:=zom (d:=x.disk) (p:=p) h.seq0 h.seq1
 unfold cdone
 split
 ·exact ⟨⟨hd.ok,h.ok.maps,h.ok.names,h.ok.bits⟩,hd,h.guest,h.host,h.seq0,h.seq1,h.maps⟩
 ·exact ⟨⟨hd.ok,h.ok.maps,h.ok.names,h.ok.bits⟩,hd,h.guest,h.host,hs.1,hs.2,h.maps⟩
theorem DiskF.place {d:Disk} (h:DiskF d) (k off:Int) (s:Txt):DiskF (zgn d k off s).1:=by
 have:∀m i d,DiskF d→DiskF (zeU k off s m i d).1:=by
  intro m
  induction m with
  |zero=>intro i d h;exact h
  |succ m ih=>
   intro i d h
   rw [zeU]
   split
   ·exact h.cput1 _ _ _ _
   ·exact ih _ _ (h.cput1 _ _ _ _)
 exact this _ _ _ h
theorem ImgF.write4 {x:Img} (h:ImgF x) (l1 g off:Int) (s:Txt):ImgF (zdx x l1 g off s).1:=by
 unfold zdx
 repeat' split
 ·exact h
 ·exact h
 ·exact h.wd (DiskF.layL _ h.disk)
 ·exact h.wd (DiskF.layL _ h.disk)
 ·exact (h.wd (DiskF.layL _ h.disk)).done _
theorem ImgF.write {x:Img} (h:ImgF x) (g off:Int) (s:Txt):ImgF (zdy x g off s).1:=by
 have hm:=h.mark g
 unfold zdy
 split
 ·exact h
 split
 ·exact h
 split
 ·exact h
 unfold zfV
 split
 ·exact hm
 split
 ·exact hm
 unfold zg3
 split
 ·split
  ·exact hm
  split
  ·exact hm.wd (hm.disk.place _ _ _)
  ·exact hm.write4 _ _ _ _
 ·exact hm.write4 _ _ _ _
open Go Go.Proofs
structure DF (d d':Disk):Prop where
 data:d'.data.length=d.data.length
 bad:d'.bad=d.bad
 cache:d.cache.length≤4096→d'.cache.length≤4096
theorem DF.refl (d:Disk):DF d d:=⟨rfl,rfl,id⟩
theorem DF.trans {a b c:Disk} (h:DF a b) (g:DF b c):DF a c:=⟨g.data.trans h.data,g.bad.trans h.bad,fun k=>g.cache (h.cache k)⟩
theorem zmA {d d':Disk} (h:d'.data.length=d.data.length):∀ (l:List Int) (p:Option Int),zcO d' l p=zcO d l p
 | [],p=>rfl
 |a::l,p=>by simp only [zcO];rw [zq3 h,zmA h l]
theorem DF.fit {d d':Disk} (h:DF d d') (hF:DiskF d') (hf:dfit d=true):dfit d'=true:=by
 unfold dfit at hf ⊢
 simp only [Bool.and_eq_true,decide_eq_true_eq,beq_iff_eq] at hf ⊢
 obtain ⟨⟨⟨⟨⟨h1,h2⟩,h3⟩,h4⟩,h5⟩,h6⟩:=hf
 have hd:dsize d'=dsize d:=by unfold dsize;rw [h.data]
 exact ⟨⟨⟨⟨⟨by rw [hd];exact h1,by rw [hd];exact h2⟩,by rw [h.data];exact h3⟩,h.cache h4⟩,hF.puts⟩,by rw [h.bad,zmA h.data];exact h6⟩
theorem DF.write (d:Disk) (a:Int) (s:Txt):DF d (zaT d a s).1:=by
 refine ⟨by rw [zim],?_,?_⟩
 ·unfold zaT
  repeat' split
  all_goals first|rfl|(rw [zmz])
 ·intro h
  unfold zaT
  split
  ·exact h
  split
  ·exact h
  split
  ·exact h
  split
  ·exact h
  split
  ·exact h
  split
  ·exact h
  ·rename_i h1 h2 h3 h4 h5 h6
   rw [zem]
   simp only [List.length_append,List.length_cons,List.length_nil]
   omega
theorem DF.flush {d:Disk} (h:DiskF d):DF d (dflush d).1:=by
 refine ⟨zjD h.puts,?_,?_⟩
 ·unfold dflush
  repeat' split
  all_goals first|rfl|(rw [zmz])
 ·intro hc
  unfold dflush
  split
  ·exact hc
  split
  ·exact hc
  ·rw [zem]
   exact Nat.zero_le _
theorem DF.layL:∀ (l:List (Int×Txt)) (d:Disk),DF d (layL d l).1
 | [],d=>DF.refl d
 |q::l,d=>by
  rw [Aw.layL]
  split
  ·exact DF.write d q.1 q.2
  ·exact (DF.write d q.1 q.2).trans (DF.layL l _)
theorem DF.commit {d:Disk} (h:DiskF d) (j:Jour) (p:Plan):DF d (jcommit d j p).1:=by
 have h1:=DF.flush h
 have h2:∀l,DF d (Aw.layL (dflush d).1 l).1:=fun l=>h1.trans (DF.layL l _)
 have h3:∀l,DF d (dflush (Aw.layL (dflush d).1 l).1).1:=fun l=>(h2 l).trans (DF.flush (DiskF.layL l h.flush))
 have h4:∀l,DF d (play (dflush (Aw.layL (dflush d).1 l).1).1 p).1:=fun l=>(h3 l).trans (DF.layL _ _)
 unfold jcommit jtail
 repeat' split
 all_goals first|exact DF.refl d|exact h1|exact h2 _|exact h3 _|exact h4 _
theorem DF.place (d:Disk) (k off:Int) (s:Txt):DF d (zgn d k off s).1:=by
 have h1:∀i d,DF d (cput1 d k off s i).1:=by
  intro i d
  unfold cput1
  split
  ·exact DF.refl d
  split
  ·exact DF.refl d
  ·exact DF.write _ _ _
 have:∀m i d,DF d (zeU k off s m i d).1:=by
  intro m
  induction m with
  |zero=>intro i d;exact DF.refl d
  |succ m ih=>
   intro i d
   rw [zeU]
   split
   ·exact h1 i d
   ·exact (h1 i d).trans (ih _ _)
 exact this _ _ _
theorem zor {d:Disk} {j:Jour} {p:Plan} (hp:pfit p=true) (h:jfit j=true):jfit (jcommit d j p).2.1=true:=by
 have hl:=(zjG j.seq hp).1
 have hA:=zjF j.pos (zdu j.seq p).length
 have hAL:0≤zeE j.pos (zdu j.seq p).length∧zeE j.pos (zdu j.seq p).length+(zdu j.seq p).length≤81:=by
  refine ⟨U,?_⟩
  unfold zeE
  split<;>omega
 unfold jcommit
 split
 ·exact h
 split
 ·exact h
 rename_i h2
 split
 ·exact h
 unfold jtail
 split
 ·exact h
 split
 ·exact h
 split
 ·exact h
 ·unfold jfit at h ⊢
  simp only [Bool.and_eq_true,decide_eq_true_eq] at h ⊢
  omega
structure IF (x y:Img):Prop where
 geom:y.geom=x.geom
 disk:DF x.disk y.disk
 jour:jfit x.jour=true→jfit y.jour=true
 len:y.maps.length=x.maps.length
 maps:∀n k,mfit n k y.maps=mfit n k x.maps
 head:y.maps.head?.map (·.name)=x.maps.head?.map (·.name)
theorem IF.refl (x:Img):IF x x:=⟨rfl,DF.refl _,id,rfl,fun _ _=>rfl,rfl⟩
theorem IF.trans {x y z:Img} (h:IF x y) (g:IF y z):IF x z:=⟨g.geom.trans h.geom,h.disk.trans g.disk,fun k=>g.jour (h.jour k),g.len.trans h.len,fun n k=>(g.maps n k).trans (h.maps n k),g.head.trans h.head⟩
theorem IF.fit {x y:Img} (h:IF x y) (hy:ImgF y) (hf:ifit x=true):ifit y=true:=by
 unfold ifit at hf ⊢
 simp only [Bool.and_eq_true,decide_eq_true_eq,beq_iff_eq] at hf ⊢
 obtain ⟨⟨⟨⟨⟨h1,h2⟩,h3⟩,h4⟩,h5⟩,h6⟩:=hf
 have hd:dsize y.disk=dsize x.disk:=by unfold dsize;rw [h.disk.data]
 exact ⟨⟨⟨⟨⟨by rw [h.geom];exact h1,h.disk.fit hy.disk h2⟩,by rw [hd,h.geom];exact h3⟩,h.jour h4⟩,by rw [h.len];exact h5⟩,by rw [h.head,h.maps];exact h6⟩
theorem IF.mark (x:Img) (g:Int):IF x (cmark x g):=by
 unfold cmark
 split
 ·exact IF.refl x
 ·refine ⟨rfl,DF.refl _,id,aa,?_,?_⟩
  ·simp only
   intro n k
   have hg:∀ (l:List Dmap) k,mfit n k (l.map (mset g.toNat))=mfit n k l:=by
    intro l
    induction l with
    |nil=>intro k;rfl
    |cons m l ih=>intro k;rw [List.map_cons,mfit,mfit,ih];rfl
   exact hg _ k
  ·cases hm:x.maps with
   |nil=>simp [hm]
   |cons m l=>simp [hm,mset]
theorem IF.wd (x:Img) {d:Disk} (h:DF x.disk d):IF x (wdisk x d):=⟨rfl,h,id,rfl,fun _ _=>rfl,rfl⟩
theorem IF.done {x:Img} {p:Plan} (hx:DiskF x.disk) (hp:pfit p=true):IF x (cdone x p).1:=by
 have h1:=DF.commit hx x.jour p
 have h2:=zor (d:=x.disk) (j:=x.jour) hp
 unfold cdone
 split
 ·exact ⟨rfl,h1,id,rfl,fun _ _=>rfl,rfl⟩
 ·exact ⟨rfl,h1,h2,rfl,fun _ _=>rfl,rfl⟩
theorem IF.write4 {x:Img} (hx:ImgF x) (l1 g off:Int) (s:Txt):IF x (zdx x l1 g off s).1:=by
 have hd0:DP x.disk p0:=⟨hx.disk,zdw⟩
 unfold zdx
 split
 ·exact IF.refl x
 split
 ·exact IF.refl x
 split
 ·exact IF.wd x (DF.layL _ _)
 split
 ·exact IF.wd x (DF.layL _ _)
 ·refine (IF.wd x (DF.layL _ _)).trans (IF.done (DiskF.layL _ hx.disk) ?_)
  have hq:DP (layL x.disk (zcj (rtake x.disk p0 x.geom).2.1 (overS (cread x.disk l1 g).1 off s).1)).1 (rtake x.disk p0 x.geom).1:=⟨DiskF.layL _ hx.disk,(hd0.rtake _).p⟩
  exact (hq.ppoint _ _ _).p
theorem IF.write {x:Img} (hx:ImgF x) (g off:Int) (s:Txt):IF x (zdy x g off s).1:=by
 have hm:=hx.mark g
 unfold zdy
 split
 ·exact IF.refl x
 split
 ·exact IF.refl x
 split
 ·exact IF.refl x
 refine (IF.mark x g).trans ?_
 unfold zfV
 split
 ·exact IF.refl _
 split
 ·exact IF.refl _
 unfold zg3
 split
 ·split
  ·exact IF.refl _
  split
  ·exact IF.wd _ (DF.place _ _ _ _)
  ·exact IF.write4 hm _ _ _ _
 ·exact IF.write4 hm _ _ _ _
theorem IF.wipe {x:Img} (hx:ImgF x) (g:Int) (hole:Bool):IF x (wipe x g hole).1:=by
 have hm:=hx.mark g
 have hd0:DP (cmark x g).disk p0:=⟨hm.disk,zdw⟩
 unfold Aw.wipe
 split
 ·exact IF.refl x
 split
 ·exact IF.refl x
 refine (IF.mark x g).trans ?_
 obtain ⟨kd,hkd⟩:∃kd:Int,kd=if hole then 0 else 2:=⟨_,rfl⟩
 rw [← hkd]
 unfold wipe2
 split
 ·exact IF.refl _
 split
 ·exact IF.refl _
 split
 ·exact IF.refl _
 split
 ·exact IF.refl _
 ·exact IF.done hm.disk (hd0.ppoint _ _ _).p
open Go Go.Proofs
theorem zxY (n:Nat):∀a,∀q∈cuts a n,q.2.2≤128:=by
 induction n using Nat.strongRecOn with
 | _ n ih=>
  intro a q hq
  rcases Nat.eq_zero_or_pos n with rfl|h
  ·simp [zeX] at hq
  ·rw [zeq a n h,List.mem_cons] at hq
   rcases hq with rfl|hq
   ·simp only;omega
   ·exact ih _ U _ q hq
theorem zk6 (a n:Int):∀q∈cutsL a n,q.2.2≤128:=by
 unfold cutsL
 split
 ·intro q hq;cases hq
 ·exact zxY _ _
theorem zd3 (a n:Int):(cutsL a n).length≤65536:=by
 unfold cutsL
 split
 ·exact Nat.zero_le _
 ·have:=zk0 n.toNat a.toNat
  omega
def zeY (hole:Bool) (q:Nat×Nat×Nat) (x:Img):Img×Int:=if q.2.2=128 then wipe x q.1 hole else zdy x q.1 q.2.1 (List.replicate q.2.2 0)
theorem IF.clear1 {x:Img} (h:ImgF x) (hole:Bool) (q:Nat×Nat×Nat):IF x (zeY hole q x).1:=by
 unfold zeY
 split
 ·exact IF.wipe h _ _
 ·exact IF.write h _ _ _
theorem ImgF.wipe {x:Img} (h:ImgF x) (g:Int) (hole:Bool):ImgF (wipe x g hole).1:=by
 have hm:=h.mark g
 unfold Aw.wipe
 split
 ·exact h
 split
 ·exact h
 obtain ⟨kd,hkd⟩:∃kd:Int,kd=if hole then 0 else 2:=⟨_,rfl⟩
 rw [← hkd]
 unfold wipe2
 repeat (split;exact hm)
 exact hm.done _
theorem ImgF.clear1 {x:Img} (h:ImgF x) (hole:Bool) (q:Nat×Nat×Nat):ImgF (zeY hole q x).1:=by
 unfold zeY
 split
 ·exact h.wipe _ _
 ·exact h.write _ _ _
open Go Go.Proofs
theorem zpP:∀a b,cutD a=cutD b→a=b:=by
 rintro ⟨a,b,c⟩ ⟨a',b',c'⟩ h
 simp only [cutD,List.cons.injEq,D.int.injEq,true_and,and_true] at h
 obtain ⟨h1,h2,h3⟩:=h
 obtain rfl:a=a':=U
 obtain rfl:b=b':=U
 obtain rfl:c=c':=U
 rfl
def u32D (n:Int):List D:= [.int .u32 n]
theorem zhP:∀a b,u32D a=u32D b→a=b:=by
 intro a b h
 simpa only [u32D,List.cons.injEq,D.int.injEq,true_and,and_true] using h
structure Ext where
 len:Int
 flags:Int
 deriving DecidableEq
def extD (e:Ext):List D:= [.int .i64 e.len,.int .i64 e.flags]
theorem zgq:∀a b,extD a=extD b→a=b:=by
 rintro ⟨a,b⟩ ⟨a',b'⟩ h
 simp only [extD,List.cons.injEq,D.int.injEq,true_and,and_true] at h
 rw [h.1,h.2]
structure Spn where
 ctx:Int
 list:List Ext
 deriving DecidableEq
def spnD (s:Spn):List D:= [.int .u32 s.ctx,.sl 2 (s.list.map extD)]
theorem zpQ:∀a b,spnD a=spnD b→a=b:=by
 rintro ⟨a,b⟩ ⟨a',b'⟩ h
 simp only [spnD,List.cons.injEq,D.int.injEq,D.sl.injEq,true_and,and_true] at h
 rw [h.1,(zia zgq).mp h.2]
structure Rq where
 flags:Int
 kind:Int
 cookie:Int
 frm:Int
 len:Int
 data:Txt
 deriving DecidableEq
def rqA (q:Rq):AV:= .agg [.d (.int .i64 q.flags),.d (.int .i64 q.kind),.d (.int .u64 q.cookie),.d (.int .u64 q.frm),.d (.int .u32 q.len),.d (.str q.data)]
attribute [go_sem] rqA
theorem zyP (q:Rq):Rq.mk q.flags q.kind q.cookie q.frm q.len q.data=q:=rfl
noncomputable def rqA_T:PT Rq:=aggT (consL (intT .i64) (consL (intT .i64) (consL (intT .u64) (consL (intT .u64) (consL (intT .u32) (consL strT nilL)))))) (fun p=>⟨p.1,p.2.1,p.2.2.1,p.2.2.2.1,p.2.2.2.2.1,p.2.2.2.2.2.1⟩) (fun x=>(x.flags,x.kind,x.cookie,x.frm,x.len,x.data,())) (fun _=>rfl)
attribute [go_sem] rqA_T
attribute [go_sem] zyP
structure Tsk where
 q:Rq
 cuts:List (Nat×Nat×Nat)
 loc:Int
 err:Int
 data:Txt
 spans:List Spn
 done:Bool
 deriving DecidableEq
def tskA (t:Tsk):AV:= .agg [.d (.int .i64 t.q.flags),.d (.int .i64 t.q.kind),.d (.int .u64 t.q.cookie),.d (.int .u64 t.q.frm),.d (.int .u32 t.q.len),.d (.str t.q.data),.d (.sl 3 (t.cuts.map cutD)),.d (.int .i64 t.loc),.d (.int .u32 t.err),.d (.str t.data),.d (.sl 2 (t.spans.map spnD)),.d (.bool t.done)]
attribute [go_sem] tskA
theorem zxZ (t:Tsk):Tsk.mk t.q t.cuts t.loc t.err t.data t.spans t.done=t:=rfl
noncomputable def zgr:PT Tsk:=aggT (consL (intT .i64) (consL (intT .i64) (consL (intT .u64) (consL (intT .u64) (consL (intT .u32) (consL strT (consL (slT 3 cutD zpP) (consL (intT .i64) (consL (intT .u32) (consL strT (consL (slT 2 spnD zpQ) (consL boolT nilL)))))))))))) (fun p=>⟨⟨p.1,p.2.1,p.2.2.1,p.2.2.2.1,p.2.2.2.2.1,p.2.2.2.2.2.1⟩,p.2.2.2.2.2.2.1,p.2.2.2.2.2.2.2.1,p.2.2.2.2.2.2.2.2.1,p.2.2.2.2.2.2.2.2.2.1,p.2.2.2.2.2.2.2.2.2.2.1,p.2.2.2.2.2.2.2.2.2.2.2.1⟩) (fun x=>(x.q.flags,x.q.kind,x.q.cookie,x.q.frm,x.q.len,x.q.data,x.cuts,x.loc,x.err,x.data,x.spans,x.done,())) (fun _=>rfl)
attribute [go_sem] zgr
attribute [go_sem] zxZ
def inB (g a n:Int):Bool:=decide (0≤a)&&decide (0≤n)&&decide (n≤128*g)&&decide (a≤128*g - n)
theorem inB_iff {g a n:Int} :inB g a n=true↔0≤a∧0≤n∧n≤128*g∧a≤128*g - n:=by
 unfold inB
 simp only [Bool.and_eq_true,decide_eq_true_eq,and_assoc]
def zjQ (d:Disk) (l1:Int):List (Nat×Nat×Nat)→Txt→Txt×Int
 | [],s=>(s,0)
 |q::r,s=>if (cread d l1 q.1).2≠0 then ([],(cread d l1 q.1).2) else zjQ d l1 r (s++((cread d l1 q.1).1.take (q.2.1+q.2.2)).drop q.2.1)
def iread (x:Img) (a n:Int):Txt×Int:=
 if inB x.geom.guest a n=false then ([],10) else if (zR x.disk p0).2≠0 then ([],(zR x.disk p0).2) else zjQ x.disk (zR x.disk p0).1.l1 (cutsL a n) []
def zb1 (x:Img):Img×Int:=
 if x.broken then (x,24) else ({ x with disk:=(dflush x.disk).1,broken:=(dflush x.disk).2 !=0 },(dflush x.disk).2)
def jst (o:List Ext) (x:Ext):List Ext:=match o.getLast? with
 |some y=>if y.flags=x.flags then o.dropLast++ [⟨y.len+x.len,x.flags⟩] else o++ [x]
 |none=> [x]
def ejoin (l:List Ext):List Ext:=l.foldl jst []
def ziy (y:Ent2):Int:=if y.kind=1 then 0 else if y.kind=2 then 2 else 3
def spL (f:Int→Int×Int):List (Nat×Nat×Nat)→List Ext→List Ext×Int
 | [],l=>(ejoin l,0)
 |q::r,l=>if (f q.1).2≠0 then ([],(f q.1).2) else spL f r (l++ [⟨q.2.2,(f q.1).1⟩])
def elkF (d:Disk) (l1:Int) (g:Int):Int×Int:=(ziy (elook d p0 l1 g).1,(elook d p0 l1 g).2)
def bitF (m:Dmap) (g:Int):Int×Int:=(if m.bits.getD g.toNat false then 1 else 0,0)
def zc4 (x:Img) (l1 a n:Int):List Ext×Int:=
 if n<1∨inB x.geom.guest a n=false then ([],10) else spL (elkF x.disk l1) (cutsL a n) []
def zeG (x:Img) (name:Txt) (a n:Int):List Ext×Int:=
 if n<1∨inB x.geom.guest a n=false then ([],10) else match x.maps.find? fun m=>m.name==name with
  |none=>([],21)
  |some m=>spL (bitF m) (cutsL a n) []
def hasF (f k:Int):Bool:=ibits .and .i64 f k !=0
def isPc (k:Int):Bool:=k==0||k==1||k==4||k==6
def tnew (q:Rq):Tsk:=⟨q,if isPc q.kind∧q.frm<1073741824 then cutsL q.frm q.len else [],0,0,[],[],false⟩
def tfail (t:Tsk) (e:Int):Tsk:= { t with done:=true,data:= [],spans:= [],err:=if e=17 then 28 else 5 }
def tpc (x:Img) (q:Rq) (c:Nat×Nat×Nat):Img×Txt×Int:=
 if q.kind=0 then (x,iread x (c.1*128+c.2.1) c.2.2)
 else if q.kind=1 then ((zdy x c.1 c.2.1 ((q.data.take (c.1*128+c.2.1 - q.frm+c.2.2).toNat).drop (c.1*128+c.2.1 - q.frm).toNat)).1,[],(zdy x c.1 c.2.1 ((q.data.take (c.1*128+c.2.1 - q.frm+c.2.2).toNat).drop (c.1*128+c.2.1 - q.frm).toNat)).2)
 else ((zeY (q.kind==4|| !hasF q.flags 2) c x).1,[],(zeY (q.kind==4|| !hasF q.flags 2) c x).2)
def tctx0 (x:Img) (q:Rq) (k:Int):List Ext×Int:=
 if k=1 then (if (zR x.disk p0).2≠0 then ([],(zR x.disk p0).2) else zc4 x (zR x.disk p0).1.l1 q.frm q.len)
 else match (if k<2 then none else x.maps[(k - 2).toNat]?) with
  |none=>([],21)
  |some m=>zeG x m.name q.frm q.len
def tcut1 (q:Rq) (s:List Ext×Int):List Ext×Int:=if s.2=0∧hasF q.flags 8 then (s.1.take 1,0) else s
def tctx (x:Img) (q:Rq) (k:Int):List Ext×Int:=tcut1 q (tctx0 x q k)
def tctxL (x:Img) (q:Rq):List Int→List Spn→List Spn×Int
 | [],l=>(l,0)
 |k::r,l=>if (tctx x q k).2≠0 then ([],(tctx x q k).2) else tctxL x q r (l++ [⟨k,(tctx x q k).1⟩])
def tlast (x:Img) (q:Rq) (ms:List Int):Img×List Spn×Int:=
 if q.kind=7 then (x,tctxL x q ms []) else if q.kind=3∨hasF q.flags 1 then ((zb1 x).1,[],(zb1 x).2) else (x,[],0)
def tstep (x:Img) (t:Tsk) (ms:List Int):Img×Tsk:=
 if t.done then (x,t)
 else match t.cuts[t.loc.toNat]? with
  |some c=>((tpc x t.q c).1,if (tpc x t.q c).2.2≠0 then tfail { t with loc:=t.loc+1 } (tpc x t.q c).2.2 else { t with loc:=t.loc+1,data:=t.data++(tpc x t.q c).2.1,done:=(t.loc+1==(t.cuts.length:Int))&& !hasF t.q.flags 1 })
  |none=>((tlast x t.q ms).1,if (tlast x t.q ms).2.2≠0 then tfail t (tlast x t.q ms).2.2 else { t with spans:=(tlast x t.q ms).2.1,done:=true })
def zpR:Txt:= [103,68,102,152]
def zer:Txt:= [102,142,51,239]
def zb7 (err cookie:Int) (data:Txt):Txt×Int:=if 4096<(data.length:Int)∨err≠0∧data≠ [] then ([],11) else (zpR++putN err.toNat 4++putN cookie.toNat 8++data,0)
def za2 (done:Bool) (kind cookie:Int) (data:Txt):Txt×Int:=
 if kind<0∨65535<kind then ([],25) else if 4128<(data.length:Int) then ([],11) else (zer++putN (if done then 1 else 0) 2++putN kind.toNat 2++putN cookie.toNat 8++putN data.length 4++data,0)
def rdata (frm:Int) (s:Txt):Txt:=putN frm.toNat 8++s
def rfail (e:Int):Txt:=putN e.toNat 4++ [0,0]
def extOk (e:Ext):Bool:=decide (1≤e.len)&&decide (e.len≤4294967295)&&decide (0≤e.flags)&&decide (e.flags≤4294967295)
def rrows:List Ext→Txt→Txt×Int
 | [],s=>(s,0)
 |e::r,s=>if extOk e then rrows r (s++putN e.len.toNat 4++putN e.flags.toNat 4) else ([],25)
def zdV (ctx:Int) (l:List Ext):Txt×Int:=if l.length=0∨500<l.length then ([],16) else rrows l (putN ctx.toNat 4)
def zb8 (q:Rq) (e:Int) (chunks:Bool):Txt:=
 if e=0 then [] else if chunks then (za2 true 32769 q.cookie (rfail e)).1 else (zb7 e q.cookie []).1
def ziz (q:Rq):List Spn→Txt→Txt
 | [],s=>s
 |p::r,s=>ziz q r (s++(za2 r.isEmpty 5 q.cookie (zdV p.ctx p.list).1).1)
def zeZ (t:Tsk) (chunks:Bool):Txt:=
 if t.done=false then [] else if t.err≠0 then zb8 t.q t.err chunks
 else if chunks=false then (zb7 0 t.q.cookie t.data).1
 else if t.q.kind=0 then (za2 true 1 t.q.cookie (rdata t.q.frm t.data)).1
 else if t.q.kind=7 then ziz t.q t.spans []
 else (za2 true 0 t.q.cookie []).1
open Go Go.Proofs
def zb2 (kind:Int) (chunks:Bool):Int:=if kind=0 then (if chunks then 4 else 0) else if kind=1∨kind=4 then 1 else if kind=6 then 3 else if kind=3∨kind=2 then 0 else if kind=7 then 8 else -1
def cbad1 (f may:Int) (i:Nat):Bool:=(ibits .and .i64 (ishr .i64 f i) 1==1)&&(ibits .and .i64 (ishr .i64 may i) 1==0)
def cbadL (f may:Int):Nat→Nat→Bool
 |_,0=>false
 |i,n+1=>cbad1 f may i||cbadL f may (i+1) n
def cbad (f may:Int):Bool:=cbadL f may 0 16
def zjT (q:Rq) (size:Int) (ms:List Int):Int:=
 if zb2 q.kind true<0 then 22 else if cbad q.flags (zb2 q.kind true)=true then 22 else if q.kind=2 then 0
 else if q.kind=3 then (if q.frm≠0∨q.len≠0 then 22 else 0)
 else if q.len=0 then 22 else if 1024<q.len then 75
 else if size<q.frm∨size - q.frm<q.len then (if q.kind=1 then 28 else 22)
 else if q.kind=7∧ms.length=0 then 22 else 0
structure RqOk (q:Rq):Prop where
 c0:0≤q.cookie
 c1:q.cookie<18446744073709551616
 f0:0≤q.frm
 f1:q.frm<18446744073709551616
 l0:0≤q.len
 l1:q.len<4294967296
 d:q.data.length≤9223372036854775807
structure RqF (x:Img) (q:Rq) (ms:List Int):Prop where
 ok:RqOk q
 img:ImgF x
 fit:ifit x=true
 maps:x.maps.length≤2
 g0:1≤x.geom.guest
 g1:x.geom.guest≤64
 kind:q.kind=0∨q.kind=1∨q.kind=3∨q.kind=4∨q.kind=6∨q.kind=7
 len:q.len≤1024
 rng:q.frm+q.len≤128*x.geom.guest
 data:q.kind=1→(q.data.length:Int)=q.len
 one:q.kind≠3→1≤q.len
 lms:ms.length≤3
 mr:∀m∈ms,1≤m∧m≤3
 m0:q.kind=7→ms≠ []
theorem ziA {q:Rq} {size:Int} {ms:List Int} (h:zjT q size ms=0) (hk:q.kind≠2):(q.kind=3∧q.frm=0∧q.len=0)∨((q.kind=0∨q.kind=1∨q.kind=4∨q.kind=6∨q.kind=7)∧q.len≠0∧q.len≤1024∧q.frm≤size∧q.len≤size - q.frm∧(q.kind=7→ms≠ [])):=by
 unfold zjT at h
 split at h
 ·cases h
 rename_i h1
 split at h
 ·cases h
 split at h
 ·rename_i h2
  split at h
  ·cases h
  ·rename_i h3
   exact .inl ⟨h2,U,U⟩
 rename_i h2
 split at h
 ·cases h
 rename_i h3
 split at h
 ·cases h
 rename_i h4
 split at h
 ·split at h<;>cases h
 rename_i h5
 split at h
 ·cases h
 rename_i h6
 refine .inr ⟨?_,h3,U,U,U,fun h7 hm=>h6 ⟨h7,by rw [hm];rfl⟩⟩
 unfold zb2 at h1
 by_cases k0:q.kind=0
 ·exact .inl k0
 by_cases k1:q.kind=1
 ·exact .inr (.inl k1)
 by_cases k4:q.kind=4
 ·exact .inr (.inr (.inl k4))
 by_cases k6:q.kind=6
 ·exact .inr (.inr (.inr (.inl k6)))
 by_cases k7:q.kind=7
 ·exact .inr (.inr (.inr (.inr k7)))
 rw [if_neg k0,if_neg U,if_neg k6,if_neg U,if_neg k7] at h1
 exact absurd ae h1
theorem RqF.step {x:Img} {q:Rq} {ms:List Int} (h:RqF x q ms) {y:Img} (hy:ImgF y) (hi:IF x y):RqF y q ms:=
 ⟨h.ok,hy,hi.fit hy h.fit,by rw [hi.len];exact h.maps,by rw [hi.geom];exact h.g0,by rw [hi.geom];exact h.g1,h.kind,h.len,by rw [hi.geom];exact h.rng,h.data,h.one,h.lms,h.mr,h.m0⟩
open Go Go.Proofs
structure Ng where
 phase:Int
 buf:Txt
 brief:Bool
 chunks:Bool
 metas:List Int
 deriving DecidableEq
def ngA (n:Ng):AV:= .agg [.d (.int .i64 n.phase),.d (.str n.buf),.d (.bool n.brief),.d (.bool n.chunks),.d (.sl 1 (n.metas.map u32D))]
attribute [go_sem] ngA
theorem zyQ (n:Ng):Ng.mk n.phase n.buf n.brief n.chunks n.metas=n:=rfl
noncomputable def ngA_T:PT Ng:=aggT (consL (intT .i64) (consL strT (consL boolT (consL boolT (consL (slT 1 u32D zhP) nilL))))) (fun p=>⟨p.1,p.2.1,p.2.2.1,p.2.2.2.1,p.2.2.2.2.1⟩) (fun x=>(x.phase,x.buf,x.brief,x.chunks,x.metas,())) (fun _=>rfl)
attribute [go_sem] ngA_T
attribute [go_sem] zyQ
structure Xp where
 size:Int
 names:List Txt
 deriving DecidableEq
def xpA (x:Xp):AV:= .agg [.d (.int .u64 x.size),.d (.sl 1 (x.names.map strD))]
attribute [go_sem] xpA
theorem zyR (x:Xp):Xp.mk x.size x.names=x:=rfl
noncomputable def xpA_T:PT Xp:=aggT (consL (intT .u64) (consL (slT 1 strD zeh) nilL)) (fun p=>⟨p.1,p.2.1⟩) (fun x=>(x.size,x.names,())) (fun _=>rfl)
attribute [go_sem] xpA_T
attribute [go_sem] zyR
def tskD (t:Tsk):List D:= [.int .i64 t.q.flags,.int .i64 t.q.kind,.int .u64 t.q.cookie,.int .u64 t.q.frm,.int .u32 t.q.len,.str t.q.data,.sl 3 (t.cuts.map cutD),.int .i64 t.loc,.int .u32 t.err,.str t.data,.sl 2 (t.spans.map spnD),.bool t.done]
theorem zwd:∀a b,tskD a=tskD b→a=b:=by
 rintro ⟨⟨a1,a2,a3,a4,a5,a6⟩,a7,a8,a9,a10,a11,a12⟩ ⟨⟨b1,b2,b3,b4,b5,b6⟩,b7,b8,b9,b10,b11,b12⟩ h
 simp only [tskD,List.cons.injEq,D.int.injEq,D.str.injEq,D.bool.injEq,D.sl.injEq,true_and,and_true] at h
 obtain ⟨rfl,rfl,rfl,rfl,rfl,rfl,h7,rfl,rfl,rfl,h11,rfl⟩:=h
 rw [(zia zpP).mp h7,(zia zpQ).mp h11]
structure Cn where
 n:Ng
 tasks:List Tsk
 out:Txt
 gone:Bool
 deriving DecidableEq
def cnD (c:Cn):List D:= [.int .i64 c.n.phase,.str c.n.buf,.bool c.n.brief,.bool c.n.chunks,.sl 1 (c.n.metas.map u32D),.sl 12 (c.tasks.map tskD),.str c.out,.bool c.gone]
theorem zx0:∀a b,cnD a=cnD b→a=b:=by
 rintro ⟨⟨a1,a2,a3,a4,a5⟩,a6,a7,a8⟩ ⟨⟨b1,b2,b3,b4,b5⟩,b6,b7,b8⟩ h
 simp only [cnD,List.cons.injEq,D.int.injEq,D.str.injEq,D.bool.injEq,D.sl.injEq,true_and,and_true] at h
 obtain ⟨rfl,rfl,rfl,rfl,h5,h6,rfl,rfl⟩:=h
 rw [(zia zhP).mp h5,(zia zwd).mp h6]
structure Srv where
 x:Img
 conns:List Cn
def srvA (v:Srv):AV:= .agg [.d (.str v.x.disk.data),.d (.sl 2 (v.x.disk.cache.map putD)),.d (.int .i64 v.x.disk.fuse),.d (.bool v.x.disk.off),.d (.sl 1 (v.x.disk.bad.map intD)),.d (.int .i64 v.x.geom.guest),.d (.int .i64 v.x.geom.host),.d (.int .u64 v.x.jour.seq),.d (.int .i64 v.x.jour.pos),.d (.sl 66 (v.x.maps.map dmapD)),.d (.bool v.x.broken),.d (.sl 8 (v.conns.map cnD))]
attribute [go_sem] srvA
theorem zx1 (v:Srv):Srv.mk v.x v.conns=v:=rfl
noncomputable def zfA:PT Srv:=aggT (consL strT (consL (slT 2 putD zkK) (consL (intT .i64) (consL boolT (consL (slT 1 intD zf8) (consL (intT .i64) (consL (intT .i64) (consL (intT .u64) (consL (intT .i64) (consL (slT 66 dmapD zeT) (consL boolT (consL (slT 8 cnD zx0) nilL)))))))))))) (fun p=>⟨⟨⟨p.1,p.2.1,p.2.2.1,p.2.2.2.1,p.2.2.2.2.1⟩,⟨p.2.2.2.2.2.1,p.2.2.2.2.2.2.1⟩,⟨p.2.2.2.2.2.2.2.1,p.2.2.2.2.2.2.2.2.1⟩,p.2.2.2.2.2.2.2.2.2.1,p.2.2.2.2.2.2.2.2.2.2.1⟩,p.2.2.2.2.2.2.2.2.2.2.2.1⟩) (fun x=>(x.x.disk.data,x.x.disk.cache,x.x.disk.fuse,x.x.disk.off,x.x.disk.bad,x.x.geom.guest,x.x.geom.host,x.x.jour.seq,x.x.jour.pos,x.x.maps,x.x.broken,x.conns,())) (fun _=>rfl)
attribute [go_sem] zfA
attribute [go_sem] zx1
def optHd:Txt:= [73,72,65,86,69,79,80,84]
def ansHd:Txt:= [0,3,232,137,4,85,101,169]
def zjU:Txt:= [78,66,68,77,65,71,73,67,73,72,65,86,69,79,80,84,0,3]
def zd4 (s:Txt):Txt:=putS8 s.length 4++s
def sayS (opt kind:Int) (data:Txt):Txt:=if 4096<data.length then [] else ansHd++putS8 opt 4++putS8 kind 4++putS8 data.length 4++data
def numAt (s:Txt) (i k:Nat):Nat:=takeN ((s.drop i).take k)
def optRd (s:Txt):(Int×Txt)×Txt×Int:=
 if s.take 8≠optHd.take s.length then ((0,[]),[],14)
 else if s.length<16 then ((0,[]),[],22)
 else if 4096<numAt s 12 4 then ((0,[]),[],11)
 else if s.length<16+numAt s 12 4 then ((0,[]),[],22)
 else ((numAt s 8 4,(s.drop 16).take (numAt s 12 4)),s.drop (16+numAt s 12 4),0)
def toBeg (s:Txt):Txt×Txt×Int:=
 if s.length<4 then ([],[],22) else if s.length<4+numAt s 0 4 then ([],[],22) else ((s.drop 4).take (numAt s 0 4),s.drop (4+numAt s 0 4),0)
def zc7:Nat→List Txt→Txt→Option (List Txt×Txt)
 |0,l,s=>some (l,s)
 |k+1,l,s=>if (toBeg s).2.2≠0 then none else zc7 k (l++ [(toBeg s).1]) (toBeg s).2.1
def zbq (s:Txt):Txt×List Txt×Int:=
 if (toBeg s).2.2≠0∨(toBeg s).2.1.length<4∨1000<numAt (toBeg s).2.1 0 4 then ([],[],14)
 else match zc7 (numAt (toBeg s).2.1 0 4) [] ((toBeg s).2.1.drop 4) with
  |none=>([],[],14)
  |some (l,r)=>if r≠ [] then ([],[],14) else ((toBeg s).1,l,0)
def duos:Txt→List (UInt8×UInt8)
 |a::b::r=>(a,b)::duos r
 |_=> []
def duoN (p:UInt8×UInt8):Int:=((p.1.toNat*256+p.2.toNat:Nat):Int)
def zc8 (s:Txt):Txt×List Int×Int:=
 if (toBeg s).2.2≠0∨(takeS (toBeg s).2.1 2).2.2≠0∨((takeS (toBeg s).2.1 2).2.1.length:Int)≠2*(takeS (toBeg s).2.1 2).1 then ([],[],14)
 else ((toBeg s).1,(duos (takeS (toBeg s).2.1 2).2.1).map duoN,0)
def oursS (s:Txt):Bool:=s== []||s== [100,105,115,107]
def sizeS (n:Int):Txt:=putS8 n 8++ [0,5]
def baseC:Txt:= [98,97,115,101,58]
def qemuC:Txt:= [113,101,109,117,58]
def zyS:Txt:= [98,97,115,101,58,97,108,108,111,99,97,116,105,111,110]
def zjV:Txt:= [113,101,109,117,58,100,105,114,116,121,45,98,105,116,109,97,112,58]
def ctxs (names:List Txt):List Txt:=zyS::names.map (zjV++ ·)
def zhw (c:Txt) (all:Bool) (q:Txt):Bool:=q==c||all&&(q==baseC||q==qemuC)&&q.isPrefixOf c
def zda (c:Txt) (l:List Txt) (all:Bool):Bool:=(all&&l.isEmpty)||l.any (zhw c all)
def zao (k:Int) (l:List Txt):Nat→List Txt→Txt→List Int→Txt×List Int
 |_,[],s,ids=>(s,ids)
 |i,c::r,s,ids=>if zda c l (k !=10) then zao k l (i+1) r (s++sayS k 4 (putS8 ((i+1:Nat):Int) 4++c)) (ids++ [((i+1:Nat):Int)]) else zao k l (i+1) r s ids
def za5 (n:Ng) (x:Xp) (k:Int) (d:Txt):Ng×Txt:=
 if (zbq d).2.2≠0∨n.chunks=false then ({ n with metas:=if k=10 then [] else n.metas },sayS k 2147483651 [])
 else if 8<(zbq d).2.1.length then ({ n with metas:=if k=10 then [] else n.metas },sayS k 2147483657 [])
 else if oursS (zbq d).1=false then ({ n with metas:=if k=10 then [] else n.metas },sayS k 2147483654 [])
 else ({ n with metas:=if k=10 then (zao k (zbq d).2.1 0 (ctxs x.names) [] []).2 else n.metas },(zao k (zbq d).2.1 0 (ctxs x.names) [] []).1++sayS k 1 [])
def ngOpt (n:Ng) (x:Xp) (k:Int) (d:Txt):Ng×Txt:=
 if k=1 then (if oursS d=false then ({ n with phase:=3 },[]) else ({ n with phase:=2 },sizeS x.size++if n.brief then [] else List.replicate 124 0))
 else if k=2 then ({ n with phase:=3 },sayS k 1 [])
 else if k=3 then (if d≠ [] then (n,sayS k 2147483651 []) else (n,sayS k 2 (zd4 [100,105,115,107])++sayS k 1 []))
 else if k=6∨k=7 then
  (if (zc8 d).2.2≠0 then (n,sayS k 2147483651 []) else if oursS (zc8 d).1=false then (n,sayS k 2147483654 [])
  else ({ n with phase:=if k=7 then 2 else n.phase },sayS k 3 ([0,0]++sizeS x.size)++sayS k 1 []))
 else if k=8 then (if d≠ [] then (n,sayS k 2147483651 []) else ({ n with chunks:=true },sayS k 1 []))
 else if k=9∨k=10 then za5 n x k d
 else (n,sayS k 2147483649 [])
def ngStep (n:Ng) (x:Xp):Ng×Txt×Bool:=
 if n.phase=0 then
  (if n.buf.length<4 then (n,[],false)
  else ({ n with buf:=n.buf.drop 4,phase:=if numAt n.buf 0 4=1∨numAt n.buf 0 4=3 then 1 else 3,brief:=numAt n.buf 0 4==3 },[],true))
 else if (optRd n.buf).2.2=22 then (n,[],false)
 else if (optRd n.buf).2.2≠0 then ({ n with phase:=3 },[],true)
 else ((ngOpt { n with buf:=(optRd n.buf).2.1 } x (optRd n.buf).1.1 (optRd n.buf).1.2).1,(ngOpt { n with buf:=(optRd n.buf).2.1 } x (optRd n.buf).1.1 (optRd n.buf).1.2).2,true)
def ngClr (n:Ng):Ng:=if n.phase=3 then { n with buf:= [] } else n
def zI (x:Xp):Nat→Ng→Txt→Ng×Txt
 |0,n,out=>(ngClr n,out)
 |k+1,n,out=>if n.phase=0∨n.phase=1 then (if (ngStep n x).2.2 then zI x k (ngStep n x).1 (out++(ngStep n x).2.1) else (n,out)) else (ngClr n,out)
def zM (n:Ng) (x:Xp) (s:Txt):Ng×Txt:=
 if n.phase=3 then (n,[]) else zI x (n.buf.length+s.length+2) { n with buf:=n.buf++s } []
def reqHd:Txt:= [37,96,149,19]
def rq0:Rq:=⟨0,0,0,0,0,[]⟩
def reqQ (s:Txt) (d:Txt):Rq:=⟨numAt s 4 2,numAt s 6 2,numAt s 8 8,numAt s 16 8,numAt s 24 4,d⟩
def reqRd (s:Txt):Rq×Txt×Int:=
 if s.take 4≠reqHd.take s.length then (rq0,[],14)
 else if s.length<28 then (rq0,[],22)
 else if numAt s 6 2≠1 then (reqQ s [],s.drop 28,0)
 else if 4096<numAt s 24 4 then (rq0,[],11)
 else if s.length<28+numAt s 24 4 then (rq0,[],22)
 else (reqQ s ((s.drop 28).take (numAt s 24 4)),s.drop (28+numAt s 24 4),0)
def zau (q:Rq) (size:Int) (ch:Bool) (ms:List Int):Int:=
 if zb2 q.kind ch<0 then 22 else if cbad q.flags (zb2 q.kind ch)=true then 22 else if q.kind=2 then 0
 else if q.kind=3 then (if q.frm≠0∨q.len≠0 then 22 else 0)
 else if q.len=0 then 22 else if 1024<q.len then 75
 else if size<q.frm∨size - q.frm<q.len then (if q.kind=1 then 28 else 22)
 else if q.kind=7∧(ch=false∨ms.length=0) then 22 else 0
def zcp (c:Cn):Cn:= { c with gone:=true,tasks:= [],n:= { c.n with buf:= [] } }
def zaV (size:Int):Nat→Cn→Cn
 |0,c=>c
 | k+1,c=>
  if c.n.phase=2∧c.gone=false∧c.tasks.length<8 then
   (if (reqRd c.n.buf).2.2=22 then c
   else if (reqRd c.n.buf).2.2≠0∨(reqRd c.n.buf).1.kind=2∧zau (reqRd c.n.buf).1 size c.n.chunks c.n.metas=0 then zcp c
   else if zau (reqRd c.n.buf).1 size c.n.chunks c.n.metas≠0 then
    zaV size k { c with n:= { c.n with buf:=(reqRd c.n.buf).2.1 },out:=c.out++zb8 (reqRd c.n.buf).1 (zau (reqRd c.n.buf).1 size c.n.chunks c.n.metas) c.n.chunks }
   else zaV size k { c with n:= { c.n with buf:=(reqRd c.n.buf).2.1 },tasks:=c.tasks++ [tnew (reqRd c.n.buf).1] })
  else c
def zal (size:Int) (c:Cn):Cn:=zaV size (c.n.buf.length+1) c
def xpOf (x:Img):Xp:=⟨128*x.geom.guest,x.maps.map (fun m=>m.name)⟩
def zca (c:Cn):Cn:=if c.n.phase=3 then zcp c else c
def zdQ (x:Img) (c:Cn) (s:Txt):Cn:=
 zal (128*x.geom.guest) (zca { c with n:=(zM c.n (xpOf x) s).1,out:=c.out++(zM c.n (xpOf x) s).2 })
def zbl (v:Srv) (c:Int) (s:Txt):Srv:=
 match (if c<0 then none else v.conns[c.toNat]?) with
 |none=>v
 |some o=>if o.gone then v else { v with conns:=v.conns.set c.toNat (zdQ v.x o s) }
def zhx (x:Img) (c:Cn) (i:Nat) (t:Tsk):Cn:=
 if t.done then zal (128*x.geom.guest) { c with tasks:=c.tasks.eraseIdx i,out:=c.out++zeZ t c.n.chunks } else { c with tasks:=c.tasks.set i t }
def zd5 (v:Srv) (c:Int) (i:Int):Srv:=
 match (if c<0 then none else v.conns[c.toNat]?) with
 |none=>v
 |some o=>match (if i<0 then none else o.tasks[i.toNat]?) with
  |none=>v
  |some t=> { x:=(tstep v.x t o.n.metas).1,conns:=v.conns.set c.toNat (zhx (tstep v.x t o.n.metas).1 o i.toNat (tstep v.x t o.n.metas).2) }
def zbr (v:Srv) (c:Int):Srv×Txt:=
 match (if c<0 then none else v.conns[c.toNat]?) with
 |none=>(v,[])
 |some o=>({ v with conns:=v.conns.set c.toNat { o with out:= [] } },o.out)
def ziB (v:Srv):Nat:=(v.conns.map fun c=>c.tasks.length).sum
def cn0:Cn:=⟨⟨0,[],false,false,[]⟩,[],zjU,false⟩
def svNew (x:Img) (n:Int):Srv×Int:=if n<1∨4<n then (⟨⟨⟨[],[],0,false,[]⟩,⟨0,0⟩,⟨0,0⟩,[],false⟩,[]⟩,25) else (⟨x,List.replicate n.toNat cn0⟩,0)
structure Deed where
 kind:Int
 conn:Int
 loc:Int
 text:Txt
 deriving DecidableEq
def deedD (d:Deed):List D:= [.int .i64 d.kind,.int .i64 d.conn,.int .i64 d.loc,.str d.text]
theorem ziC:∀a b,deedD a=deedD b→a=b:=by
 rintro ⟨a1,a2,a3,a4⟩ ⟨b1,b2,b3,b4⟩ h
 simp only [deedD,List.cons.injEq,D.int.injEq,D.str.injEq,true_and,and_true] at h
 obtain ⟨rfl,rfl,rfl,rfl⟩:=h
 rfl
def svDo (v:Srv) (d:Deed):Srv×Txt:=if d.kind=0 then (zbl v d.conn d.text,[]) else if d.kind=1 then (zd5 v d.conn d.loc,[]) else zbr v d.conn
def zdz (v:Srv) (l:List Deed):Srv:=l.foldl (fun v d=>(svDo v d).1) v
theorem za1 (s:Txt) (i k:Nat):numAt s i k<256 ^ k:=zdf af
open Go Go.Proofs
theorem zwe {n:Nat} {x:List D} (h:DTy Tryz.prog (n+1) 9 x):∃s:Txt,x= [.str s]∧s.length≤140737488355328:=by
 unfold DTy at h
 simp only [ty9] at h
 exact h
theorem zpT {n:Nat} {x:List D} (h:DTy Tryz.prog (n+2) 54 x):∃d:Deed,d.text.length≤140737488355328∧x=deedD d:=by
 unfold DTy at h
 simp only [ty54,DTy.fields] at h
 obtain ⟨a1,b1,rfl,g1,a2,b2,rfl,g2,a3,b3,rfl,g3,a4,b4,rfl,g4,rfl⟩:=h
 obtain ⟨k,rfl,_⟩:=zc2 g1
 obtain ⟨c,rfl,_⟩:=zc2 g2
 obtain ⟨i,rfl,_⟩:=zc2 g3
 obtain ⟨s,rfl,q⟩:=zwe g4
 exact ⟨⟨k,c,i,s⟩,q,rfl⟩
theorem ztK {n:Nat} {x:List D} (h:DTy Tryz.prog (n+3) 43 x):∃l:List Deed,l.length≤9223372036854775807∧(∀d∈l,d.text.length≤9223372036854000000)∧x= [.sl 4 (l.map deedD)]:=by
 unfold DTy at h
 simp only [ty43] at h
 obtain ⟨rows,rfl,hl,hr⟩:=h
 obtain ⟨l,rfl⟩:=zf7 (e:=deedD) (fun r h'=>(zpT (hr r h')).imp fun s h=>h.2)
 refine ⟨l,aH,fun d hd=>?_,by rw [ty54]⟩
 obtain ⟨d',h1,h2⟩:=zpT (hr (deedD d) (List.mem_map_of_mem hd))
 rw [ziC _ _ h2]
 omega
theorem ztL (rows:List (List D)):argAV Tryz.prog 43 [.sl 4 rows]= .d (.sl 4 rows):=by simp only [argAV,ty43]
open Go Go.Proofs
theorem zwi (x:Img) (hp:0≤x.geom.guest∧x.geom.guest≤1000000):AC 99 [imgA x] (.d (.int .i64 (128*x.geom.guest))):=by
 obtain ⟨h0,h1⟩:=hp
 refine fbod Tryz.func99 Tryz.ntmps99 (fun base=>?_)
 have hw:IntKind.i64.wrap (x.geom.guest*128)=128*x.geom.guest:=aE
 refine' zc hw
@[go_sem] noncomputable def zrd:Ent Tryz.prog 99:= .m1 zbk zwi
theorem zre (x:Img) (h:ImgF x):AC 256 [imgA x] (.tup [imgA (zb1 x).1,.d (.int .i64 (zb1 x).2)]):=by
 refine fbod Tryz.func256 Tryz.ntmps256 (fun base=>?_)
 have hdo:=h.disk.ok
 have hdp:=h.disk.puts
 cases hb:x.broken with
 |true=>
  refine' walkW hb (za zge <| zb _)
  rw [zb1,if_pos hb,hb]
 |false=>
  obtain ⟨F,hF⟩:∃F,F=dflush x.disk:=⟨_,rfl⟩
  refine' walkW (zj hb hF.symm) (za zge <| zb _)
  rw [zb1,if_neg bH,← hF]
@[go_sem] noncomputable def zmL:Ent Tryz.prog 256:= .m1 zbk zre
open Go Go.Proofs
theorem zum (s:Txt) (i k:Nat) (hs:s.length≤9223372036854775807) (h:i+k≤s.length) (h1:1≤k) (h8:k≤8):ACall Tryz.prog 245 0 [.d (.str s),.d (.int .i64 i),.d (.int .i64 k)] [] (fun r _=>r= .d (.int .u64 (numAt s i k))):=by
 have hT:takeS (s.drop i) k=(((numAt s i k:Nat):Int),(s.drop i).drop k,0):=by
  rw [takeS,if_neg U,if_neg ar]
  rfl
 refine fbod Tryz.func245 Tryz.ntmps245 (fun base=>?_)
 refine' walkW hT (za zbN <| zb _)
 rw [List.length_drop];omega
theorem zrp (s:Txt) (i k:Int) (hp:s.length≤9223372036854775807∧0≤i∧i+k≤s.length∧1≤k∧k≤8):AC 245 [.d (.str s),.d (.int .i64 i),.d (.int .i64 k)] (.d (.int .u64 (numAt s i.toNat k.toNat))):=by
 obtain ⟨hs,h0,h,h1,h8⟩:=hp
 have:=zum s i.toNat k.toNat hs U U U
 rw [Int.toNat_of_nonneg h0,Int.toNat_of_nonneg U] at this
 exact this
@[go_sem] noncomputable def ze4:Ent Tryz.prog 245:= .m3 strT (intT .i64) (intT .i64) zrp
theorem zun (s:Txt):s.take (min 4 s.length)=s.take 4:=by
 rcases Nat.le_total 4 s.length with h|h
 ·rw [Nat.min_eq_left h]
 ·rw [Nat.min_eq_right h,List.take_length,List.take_of_length_le h]
theorem zww (s:Txt):reqHd.take (min 4 s.length)=reqHd.take s.length:=by
 rcases Nat.le_total 4 s.length with h|h
 ·rw [Nat.min_eq_left h,List.take_of_length_le (l:=reqHd) h];rfl
 ·rw [Nat.min_eq_right h]
theorem zrq (s:Txt) (hs:s.length≤9223372036854775807):AC 178 [.d (.str s)] (.tup [rqA (reqRd s).1,.d (.str (reqRd s).2.1),.d (.int .i64 (reqRd s).2.2)]):=by
 obtain ⟨V,hV⟩:∃V,V=reqRd s:=⟨_,rfl⟩
 rw [← hV]
 obtain ⟨n,hn⟩:∃n,n=min 4 s.length:=⟨_,rfl⟩
 have hmn:imin (s.length:Int) 4=(n:Int):=bl
 have e1:s.take n=s.take 4:=by rw [hn,zun]
 have e2:([37,96,149,19]:Txt).take n=reqHd.take s.length:=by rw [hn];exact zww s
 by_cases hh:s.take 4=reqHd.take s.length
 ·have hc:(s.take 4 !=reqHd.take s.length)=false:=by simpa using hh
  rw [reqRd,if_neg (fun e=>e hh)] at hV
  by_cases h28:s.length<28
  ·rw [if_pos h28] at hV
   have h28b:decide ((s.length:Int)<28)=true:=decide_eq_true U
   refine fbod Tryz.func178 Tryz.ntmps178 (fun base=>?_)
   refine' walkW (zo hmn e1 e2 hc @natC h28b) (za ze4 <| zb _)
   rw [hV]
   rfl
  ·rw [if_neg h28] at hV
   have h28b:decide ((s.length:Int)<28)=false:=decide_eq_false U
   have hw:∀i k:Nat,k≤4→IntKind.i64.wrap (numAt s i k:Int)=numAt s i k:=fun i k hk=>by
    have h1:=za1 s i k
    have h2:256 ^ k≤256 ^ 4:=Nat.pow_le_pow_right ae hk
    exact zi U U
   have hw1:=hw 4 2 ae
   have hw2:=hw 6 2 ae
   have hw3:=hw 24 4 ae
   have hw4:IntKind.u32.wrap (numAt s 24 4:Int)=numAt s 24 4:=by
    have:=za1 s 24 4
    exact zbT U U
   obtain ⟨D,hD⟩:∃D,D=s.drop 28:=⟨_,rfl⟩
   have hDl:D.length+28=s.length:=cD
   obtain ⟨N,hN⟩:∃N,N=numAt s 24 4:=⟨_,rfl⟩
   refine fbod Tryz.func178 Tryz.ntmps178 (fun base=>?_)
   refine' walkW (zo hmn e1 e2 hc @natC (zo h28b hw1 hw2 hw3 hw4 hD.symm)) (za ze4 <| zb _)
   ·have h6:numAt s 6 2≠1:=by
     have:=bne_iff_ne.mp hc
     omega
    rw [hV,if_pos h6,hD]
    rfl
   all_goals
    rename_i hc6
    have h6:¬numAt s 6 2≠1:=by
     have:=bne_eq_false_iff_eq.mp (by assumption:((numAt s 6 2:Int) !=1)=false)
     omega
    rw [if_neg h6] at hV
   ·rw [hV,if_pos bb]
    rfl
   ·have h46:=of_decide_eq_false (by assumption:decide (4096<(numAt s 24 4:Int))=false)
    rw [hV,if_neg U,if_pos bb]
    rfl
   ·have:=of_decide_eq_false hc
    omega
   ·have:=of_decide_eq_false hc
    omega
   ·have h46:=of_decide_eq_false (by assumption:decide (4096<(numAt s 24 4:Int))=false)
    have:=of_decide_eq_false hc
    rw [hV,if_neg U,if_neg U,hD,List.drop_drop]
    rfl
 ·have hc:(s.take 4 !=reqHd.take s.length)=true:=by simpa using hh
  rw [reqRd,if_pos hh] at hV
  refine fbod Tryz.func178 Tryz.ntmps178 (fun base=>?_)
  refine' walkW (zaB hmn e1 e2 hc @natC) (za ze4 <| zb _)
  rw [hV]
  rfl
@[go_sem] noncomputable def zmR:Ent Tryz.prog 178:= .m1 strT zrq
open Go Go.Proofs
theorem zxa:∀l:List D,(l.map AV.d).all AV.leaf=true
 | []=>rfl
 |d::l=>by rw [List.map_cons,List.all_cons,zxa l];rfl
open Go Go.Proofs
structure ExOk (x:Img):Prop where
 g0:0≤x.geom.guest
 g1:x.geom.guest≤1000000
 m:x.maps.length≤1000000
 b:∀m∈x.maps,m.bits.length=64
theorem zut (x:Img) (h:ExOk x):AC 43 [imgA x] (xpA (xpOf x)):=by
 have h0:=h.g0
 have h1:=h.g1
 have hm:=h.m
 refine fbod Tryz.func43 Tryz.ntmps43 (fun base=>?_)
 have hw:IntKind.u64.wrap (128*x.geom.guest)=128*x.geom.guest:=zA U U
 refine' walkW hw (za zrd <| zb _)
 refine zeO 2 1 1 (cs:= [.d (.int .u64 (128*x.geom.guest)),.nils 1]) rfl rfl ?_
 simp only [go_sem,aeq,aeq.aeqF,simprocAttr]
 refine zk (fun q: { i:Nat // i≤x.maps.length } =>⟨[(2,true,.vp 1 0),(3,true,.vp 2 0),(11,true,.d (.sl 66 (x.maps.map dmapD))),(12,true,.d (.int .i64 x.maps.length)),(13,true,.d (.int .i64 q.1))],[(3,.arr 1 (((x.maps.take q.1).map (fun m=>m.name)).map strD)),(2,.var [.d (.int .u64 (128*x.geom.guest)),.osl 3 1 q.1 0 q.1]),(1,.var [.d (.int .u64 0),.nils 1])],some []⟩) (fun q=>x.maps.length - q.1) ⟨0,Nat.zero_le _⟩ le1 (fun q=>?_)
 obtain ⟨i,hi⟩:=q
 simp only at hi ⊢
 have htl:(((x.maps.take i).map (fun m=>m.name)).map strD).length=i:=af
 rcases zy dmapD x.maps i hi with ⟨m,hq,hlt,hcmp,hrow,hdr,htk⟩|⟨hend,hcmp⟩
 ·have hwi:=zn (i:=i) U
  obtain ⟨R,hR⟩:∃R,R=(dmapD m).map AV.d:=⟨_,rfl⟩
  have hRl:R.length=66:=by rw [hR,List.length_map];exact zv1 (h.b m (List.mem_of_getElem? hq))
  have hRt:R.take 66=R:=List.take_of_length_le U
  have hRf:R.all AV.leaf=true:=by rw [hR];exact zxa _
  have hR0:R.getD 0 .any= .d (.str m.name):=by rw [hR];rfl
  refine' zad (zN 5) (zo hcmp hrow hR.symm hRt hRf hRl)
  rw [zke _ _ _ (by rw [hRl];exact Nat.le_refl 66)]
  simp only [List.take_zero,List.nil_append,hRl]
  simp only [go_sem,aeq,aeq.aeqF,simprocAttr]
  refine' zc (zq hR0 htl hRl)
  all_goals first|omega|skip
  exact ⟨⟨i+1,U⟩,dD,af⟩
 ·refine' zc (zj hcmp htl)
  rw [hend,List.take_length,List.take_of_length_le aa]
  rfl
@[go_sem] noncomputable def ziK:Ent Tryz.prog 43:= .m1 zbk zut
open Go Go.Proofs
theorem zwD (n:Int) (h:n=1∨n=2∨n=3∨n=4):ACall Tryz.prog 190 0 [.d (.int .u64 1),.d (.int .u64 n)] [] (fun r _=>r= .tup [.d (.int .u64 0),.d (.int .u64 n)]):=by
 rcases h with rfl|rfl|rfl|rfl
 all_goals
  refine fbod Tryz.func190 Tryz.ntmps190 (fun base=>?_)
  refine' zc fx
  all_goals first|rfl|trace_state
@[go_sem] noncomputable def zry:Ent Tryz.prog 190:= .ofL (consL (zbG (.d (.int .u64 1))) (consL (intT .u64) nilL)) (fun (_,n,_)=>n=1∨n=2∨n=3∨n=4) (fun (_,n,_)=> .tup [.d (.int .u64 0),.d (.int .u64 n)]) (fun (_,n,_) hp=>⟨rfl,zwD n hp⟩)
theorem zyY (n:Int) (h:n=1∨n=2∨n=3∨n=4):ACall Tryz.prog 116 0 [.d (.int .u64 1),.d (.int .u64 n)] [] (fun r _=>r= .tup [.d (.int .u64 0),.d (.int .u64 n)]):=by
 refine fbod Tryz.func116 Tryz.ntmps116 (fun base=>?_)
 refine' walkW fx (za zry <| zb _)
@[go_sem] noncomputable def zwE:Ent Tryz.prog 116:= .ofL (consL (zbG (.d (.int .u64 1))) (consL (intT .u64) nilL)) (fun (_,n,_)=>n=1∨n=2∨n=3∨n=4) (fun (_,n,_)=> .tup [.d (.int .u64 0),.d (.int .u64 n)]) (fun (_,n,_) hp=>⟨rfl,zyY n hp⟩)
theorem zux:ACall Tryz.prog 29 0 [] [] (fun r _=>r= .d (.str zjU)):=by
 refine fbod Tryz.func29 Tryz.ntmps29 (fun base=>?_)
 refine' zc fx
 rfl
@[go_sem] noncomputable def zoM:Ent Tryz.prog 29:= .ofL nilL (fun _=>True) (fun _=> .d (.str zjU)) (fun _ hp=>⟨rfl,zux⟩)
theorem zoN (r:List D):ACall Tryz.prog 54 40 [.osl 5 8 1 0 1,.d (.int .i64 1)] [(5,.arr 8 [r])] (fun r' h'=>r'= .d (.sl 8 [r])∧h'= [(5,.arr 8 [r])]):=by
 refine za6 (fun i=>decide (i<40)) ?_
 have hw1:IntKind.u64.wrap 1=1:=rfl
 have hw2:IntKind.i64.wrap 1=1:=rfl
 refine bod Tryz.func54 Tryz.ntmps54 (fun base=>?_)
 refine' walkW (zj hw1 hw2) (za zwE <| zb _)
 refine zbh 40 rfl ?_
 simp only [go_sem,aeq,aeq.aeqF,simprocAttr]
 refine zk (fun _:Unit=>⟨[(7,true,.d (.sl 8 [r])),(8,true,.d (.int .i64 1))],[(5,.arr 8 [r])],some []⟩) (fun _=>0) () le1 (fun q=>?_)
 refine' zc fx
def aw1l:List Cn:= [cn0]
theorem zuy (x:Img):ACall Tryz.prog 22 0 [imgA x,.d (.int .i64 1)] [] (fun r _=>r= .tup [srvA ⟨x,aw1l⟩,.d (.int .i64 0)]):=by
 refine fbod Tryz.func22 Tryz.ntmps22 (fun base=>?_)
 refine' zpA (ownsL [1000054]) fx (za zoM <| zb _)
 refine ⟨5,40,_,_,_,rfl,ae,by simp [AObj.ids],aD,zoN _,?_⟩
 simp only [go_sem,aeq,aeq.aeqF,simprocAttr]
 refine' zc fx
 all_goals rfl
@[go_sem] noncomputable def ziM:Ent Tryz.prog 22:= .ofL (consL zbk (consL (zbG (.d (.int .i64 1))) nilL)) (fun (x,_,_)=>True) (fun (x,_,_)=> .tup [srvA ⟨x,aw1l⟩,.d (.int .i64 0)]) (fun (x,_,_) hp=>⟨rfl,zuy x⟩)
open Go Go.Proofs
theorem zcJ (v:Srv) (c:Int) (h:v.conns.length≤1000000):ACall Tryz.prog 56 0 [srvA v,.d (.int .i64 c)] [] (fun r _=>r= .d (.bool (decide (0≤c)&&decide (c<(v.conns.length:Int))))):=by
 refine fbod Tryz.func56 Tryz.ntmps56 (fun base=>?_)
 refine' zc fx
theorem zuB (v:Srv) (hp:v.conns.length≤1000∧(∀c∈v.conns,c.tasks.length≤1000000)):AC 21 [srvA v] (.d (.int .i64 (ziB v))):=by
 obtain ⟨h,ht⟩:=hp
 have hsum:∀l:List Cn,(∀c∈l,c.tasks.length≤1000000)→(l.map fun c=>c.tasks.length).sum≤l.length*1000000:=by
  intro l
  induction l with
  |nil=>intro _;exact Nat.le_refl _
  |cons c l ih=>
   intro hl
   have h1:=ih (fun c hc=>hl c (List.mem_cons_of_mem _ hc))
   have h2:=hl c List.mem_cons_self
   simp only [List.map_cons,List.sum_cons,List.length_cons]
   omega
 have hall:=hsum v.conns ht
 obtain ⟨V,hV⟩:∃V,V=ziB v:=⟨_,rfl⟩
 rw [← hV]
 unfold ziB at hV
 have hVb:V≤1000000000:=by rw [hV];omega
 refine fbod Tryz.func21 Tryz.ntmps21 (fun base=>?_)
 refine' zc fx
 refine zk (fun q: { q:Nat×Nat // q.1≤v.conns.length∧V=q.2+((v.conns.drop q.1).map fun c=>c.tasks.length).sum } =>⟨[(3,true,.d (.int .i64 q.1.2)),(7,true,.d (.sl 8 (v.conns.map cnD))),(8,true,.d (.int .i64 v.conns.length)),(9,true,.d (.int .i64 q.1.1))],[],some []⟩) (fun q=>v.conns.length - q.1.1) ⟨(0,0),Nat.zero_le _,by rw [hV];simp⟩ le1 (fun q=>?_)
 obtain ⟨⟨i,a⟩,hi,ha⟩:=q
 simp only at hi ha ⊢
 rcases zy cnD v.conns i hi with ⟨m,hq,hlt,hcmp,hrow,hdr,htk⟩|⟨hend,hcmp⟩
 ·simp only [cnD] at hrow
  have hwi:=zn (i:=i) U
  rw [hdr,List.map_cons,List.sum_cons] at ha
  have hw:IntKind.i64.wrap ((a:Int)+(m.tasks.length:Int))=((a+m.tasks.length:Nat):Int):=aE
  refine' zc (zj hcmp hrow)
  all_goals first|omega|skip
  exact ⟨⟨(i+1,a+m.tasks.length),U,by show V=a+m.tasks.length+((v.conns.drop (i+1)).map fun c=>c.tasks.length).sum;omega⟩,by simp only [AS.le,leT,leH,zf,AsgK,AV.le,AV.leL,AObj.le,inH,idsT,idsH,AV.ids,AV.idsL,AV.idsR,AObj.ids,lk,hget,go_sem,aeq,aeq.aeqF,simprocAttr,hwi,hw],af⟩
 ·subst hend
  rw [List.drop_length] at ha
  simp only [List.map_nil,List.sum_nil,Nat.add_zero] at ha
  refine' zc hcmp
  rw [ha]
@[go_sem] noncomputable def ziN:Ent Tryz.prog 21:= .m1 zfA zuB
open Go Go.Proofs
theorem zgz {s t:Txt} {i k:Nat} (h:i+k≤s.length):numAt (s++t) i k=numAt s i k:=by
 unfold numAt
 rw [List.drop_append_of_le_length U,List.take_append_of_le_length af]
theorem zqf {s t hd:Txt} {k:Nat} (hk:hd.length=k) (h:s.take k≠hd.take s.length):(s++t).take k≠hd.take (s++t).length:=by
 intro e
 apply h
 have:=congrArg (List.take s.length) e
 rw [List.take_take,List.take_take,List.take_append_of_le_length U,List.length_append] at this
 rcases Nat.le_total s.length k with hl|hl
 ·rw [Nat.min_eq_left hl,List.take_length,Nat.min_eq_left U] at this
  rw [List.take_of_length_le hl]
  exact this
 ·rw [Nat.min_eq_right hl,Nat.min_eq_left U] at this
  exact this
theorem zqg {s t hd:Txt} {k:Nat} (hk:hd.length=k) (hl:k≤s.length) (h:s.take k=hd.take s.length):(s++t).take k=hd.take (s++t).length:=by
 rw [List.take_append_of_le_length hl,h,List.take_of_length_le U,List.take_of_length_le aR]
theorem zqh {s t:Txt} {i k:Nat} (h:i+k≤s.length):((s++t).drop i).take k=(s.drop i).take k:=by
 rw [List.drop_append_of_le_length U,List.take_append_of_le_length af]
theorem zuC {s t:Txt} (h:(optRd s).2.2≠22):optRd (s++t)=((optRd s).1,if (optRd s).2.2=0 then (optRd s).2.1++t else [],(optRd s).2.2):=by
 unfold optRd at h
 split at h
 ·rename_i h1
  unfold optRd
  rw [if_pos (zqf (hd:=optHd) (k:=8) rfl h1),if_pos h1]
  rfl
 rename_i h1
 split at h
 ·exact absurd rfl h
 rename_i h2
 have e1:numAt (s++t) 12 4=numAt s 12 4:=zgz U
 have e2:numAt (s++t) 8 4=numAt s 8 4:=zgz U
 have h3:¬(s++t).take 8≠optHd.take (s++t).length:=not_not_intro (zqg (hd:=optHd) (k:=8) rfl U (Classical.not_not.1 h1))
 have h4:¬(s++t).length<16:=aR
 split at h
 ·rename_i h5
  unfold optRd
  rw [if_neg h3,if_neg h4,e1,if_pos h5,if_neg h1,if_neg h2,if_pos h5]
  rfl
 rename_i h5
 split at h
 ·exact absurd rfl h
 rename_i h6
 have h7:¬(s++t).length<16+numAt s 12 4:=aR
 unfold optRd
 rw [if_neg h3,if_neg h4,e1,if_neg h5,if_neg h7,if_neg h1,if_neg h2,if_neg h5,if_neg h6,e2,zqh U,List.drop_append_of_le_length U]
 rfl
theorem zjY {s:Txt} (h:(optRd s).2.2=0):(optRd s).2.1.length+16≤s.length:=by
 unfold optRd at*
 split at h
 ·cases h
 rename_i g1
 split at h
 ·cases h
 rename_i g2
 split at h
 ·cases h
 rename_i g3
 split at h
 ·cases h
 rename_i g4
 rw [if_neg g1,if_neg g2,if_neg g3,if_neg g4]
 simp only [List.length_drop]
 omega
theorem zoX (n:Ng) (x:Xp) (k:Int) (d:Txt) (b:Txt):za5 { n with buf:=b } x k d=({ (za5 n x k d).1 with buf:=b },(za5 n x k d).2):=by
 unfold za5
 by_cases h1:(zbq d).2.2≠0∨n.chunks=false
 ·simp only [if_pos h1]
 by_cases h2:8<(zbq d).2.1.length
 ·simp only [if_neg h1,if_pos h2]
 by_cases h3:oursS (zbq d).1=false
 ·simp only [if_neg h1,if_neg h2,if_pos h3]
 ·simp only [if_neg h1,if_neg h2,if_neg h3]
theorem zlo (n:Ng) (x:Xp) (k:Int) (d:Txt) (b:Txt):ngOpt { n with buf:=b } x k d=({ (ngOpt n x k d).1 with buf:=b },(ngOpt n x k d).2):=by
 unfold ngOpt
 by_cases h1:k=1
 ·simp only [if_pos h1]
  split<;>rfl
 by_cases h2:k=2
 ·simp only [if_neg h1,if_pos h2]
 by_cases h3:k=3
 ·simp only [if_neg h1,if_neg h2,if_pos h3]
  split<;>rfl
 by_cases h4:k=6∨k=7
 ·simp only [if_neg h1,if_neg h2,if_neg h3,if_pos h4]
  by_cases h5:(zc8 d).2.2≠0
  ·simp only [if_pos h5]
  by_cases h6:oursS (zc8 d).1=false
  ·simp only [if_neg h5,if_pos h6]
  ·simp only [if_neg h5,if_neg h6]
 by_cases h5:k=8
 ·simp only [if_neg h1,if_neg h2,if_neg h3,if_neg h4,if_pos h5]
  split<;>rfl
 by_cases h6:k=9∨k=10
 ·simp only [if_neg h1,if_neg h2,if_neg h3,if_neg h4,if_neg h5,if_pos h6]
  exact zoX n x k d b
 ·simp only [if_neg h1,if_neg h2,if_neg h3,if_neg h4,if_neg h5,if_neg h6]
theorem zrH {n:Ng} {x:Xp} (t:Txt) (h:(ngStep n x).2.2=true):ngStep { n with buf:=n.buf++t } x=(if (ngStep n x).1.phase=3∧(ngStep n x).1.buf=n.buf then { (ngStep n x).1 with buf:=n.buf++t } else { (ngStep n x).1 with buf:=(ngStep n x).1.buf++t },(ngStep n x).2.1,true):=by
 unfold ngStep at h
 split at h
 ·rename_i h0
  split at h
  ·simp at h
  rename_i h1
  have e1:numAt (n.buf++t) 0 4=numAt n.buf 0 4:=zgz U
  have h2:¬(n.buf++t).length<4:=aR
  unfold ngStep
  simp only [if_pos h0,if_neg h1,if_neg h2,e1]
  have hne:∀p:Prop,¬(p∧n.buf.drop 4=n.buf):=by
   rintro p ⟨_,e⟩
   have:=congrArg List.length e
   simp only [List.length_drop] at this
   omega
  rw [if_neg (hne _),List.drop_append_of_le_length U]
 rename_i h0
 split at h
 ·simp at h
 rename_i h1
 have e1:=zuC (t:=t) h1
 split at h
 ·rename_i h2
  unfold ngStep
  simp only [if_neg h0,if_neg h1,if_pos h2,e1,and_self,if_true]
 rename_i h2
 have h3:(optRd n.buf).2.2=0:=Classical.not_not.1 h2
 unfold ngStep
 simp only [if_neg h0,if_neg h1,if_neg h2,e1,if_pos h3]
 rw [zlo n x _ _ ((optRd n.buf).2.1++t),zlo n x _ _ (optRd n.buf).2.1]
 have hne:∀p:Prop,¬(p∧(optRd n.buf).2.1=n.buf):=by
  rintro p ⟨_,e⟩
  have:=zjY h3
  rw [e] at this
  omega
 rw [if_neg (hne _)]
theorem zfX {n:Ng} {x:Xp} (hp:n.phase=0∨n.phase=1) (h:(ngStep n x).2.2=true):(ngStep n x).1.buf.length<n.buf.length∨(ngStep n x).1.phase=3∧(ngStep n x).1.buf=n.buf:=by
 unfold ngStep at*
 split at h
 ·rename_i h0
  split at h
  ·simp at h
  rename_i h1
  rw [if_pos h0,if_neg h1]
  exact .inl bB
 rename_i h0
 split at h
 ·simp at h
 rename_i h1
 split at h
 ·rename_i h2
  rw [if_neg h0,if_neg h1,if_pos h2]
  exact .inr ⟨rfl,rfl⟩
 rename_i h2
 rw [if_neg h0,if_neg h1,if_neg h2,zlo]
 have:=zjY (Classical.not_not.1 h2)
 exact .inl au
theorem zbY {x:Xp} {k:Nat} {n:Ng} {out:Txt} (hp:¬(n.phase=0∨n.phase=1)):zI x k n out=(ngClr n,out):=by
 cases k with
 |zero=>rfl
 |succ k=>rw [zI,if_neg hp]
theorem zfY {x:Xp} :∀ (k:Nat) (m:Nat) (n:Ng) (out:Txt),n.buf.length+1≤k→n.buf.length+1≤m→zI x k n out=zI x m n out
 |0,m,n,out,hk,hm=>U
 |k+1,0,n,out,hk,hm=>U
 | k+1,m+1,n,out,hk,hm=>by
  rw [zI,zI]
  split
  ·rename_i hp
   split
   ·rename_i h
    rcases zfX hp h with h1|⟨h1,h2⟩
    ·exact zfY k m _ _ U U
    ·rw [zbY U,zbY U]
   ·rfl
  ·rfl
theorem zfu {x:Xp} :∀ (k:Nat) (n:Ng) (out:Txt),zI x k n out=((zI x k n []).1,out++(zI x k n []).2)
 |0,n,out=>by simp [zI]
 | k+1,n,out=>by
  rw [zI,zI]
  split
  ·split
   ·rw [zfu k _ (out++_),zfu k _ ([]++_)]
    simp
   ·simp
  ·simp
theorem zjZ {x:Xp} (t:Txt):∀ (k:Nat) (n:Ng),n.buf.length+1≤k→∀m,n.buf.length+t.length+1≤m→
  zI x m { n with buf:=n.buf++t } []=if (zI x k n []).1.phase=3 then zI x k n [] else ((zI x ((zI x k n []).1.buf.length+t.length+1) { (zI x k n []).1 with buf:=(zI x k n []).1.buf++t } []).1,(zI x k n []).2++(zI x ((zI x k n []).1.buf.length+t.length+1) { (zI x k n []).1 with buf:=(zI x k n []).1.buf++t } []).2)
 |0,n,hk,m,hm=>U
 | k +1,n,hk,m,hm=>by
  by_cases hp:n.phase=0∨n.phase=1
  ·cases hs:(ngStep n x).2.2 with
   |false=>
    have e1:zI x (k+1) n []=(n,[]):=by rw [zI,if_pos hp,hs];rfl
    rw [e1,if_neg au]
    simp only [List.nil_append]
    exact zfY _ _ _ _ ba ba
   | true=>
    obtain ⟨m,rfl⟩:∃m',m=m'+1:=⟨m - 1,U⟩
    have e1:zI x (k+1) n []=zI x k (ngStep n x).1 ([]++(ngStep n x).2.1):=by rw [zI,if_pos hp,hs];rfl
    have e2:=zrH t hs
    have e3:zI x (m+1) { n with buf:=n.buf++t } []=zI x m (ngStep { n with buf:=n.buf++t } x).1 ([]++(ngStep { n with buf:=n.buf++t } x).2.1):=by rw [zI,if_pos hp,e2];rfl
    rw [e1,e3,e2]
    simp only [List.nil_append]
    rcases zfX hp hs with h1|⟨h1,h2⟩
    ·rw [if_neg (fun h=>by rw [h.2] at h1;omega),zfu m,zfu k]
     have ih:=zjZ (x:=x) t k (ngStep n x).1 U m U
     rw [ih]
     simp only
     split<;>simp [List.append_assoc]
    ·rw [if_pos ⟨h1,h2⟩,zbY (k:=m) au,zbY (k:=k) U]
     have e4:ngClr (ngStep n x).1= { (ngStep n x).1 with buf:= [] } :=by rw [ngClr,if_pos h1]
     rw [e4,if_pos h1]
     simp only [ngClr,h1,if_true]
  ·rw [zbY (k:=k+1) hp]
   refine (zbY (x:=x) (k:=m) (n:= { n with buf:=n.buf++t }) hp).trans ?_
   by_cases h3:n.phase=3
   ·have e4:ngClr n= { n with buf:= [] } :=by rw [ngClr,if_pos h3]
    rw [e4,if_pos h3]
    simp only [ngClr,h3,if_true]
   ·have e4:ngClr n=n:=by rw [ngClr,if_neg h3]
    rw [e4,if_neg h3,zbY (by simpa only using hp)]
    simp
theorem zrI (n:Ng) (x:Xp) (s t:Txt):zM n x (s++t)=if (zM n x s).1.phase=3 then zM n x s else ((zM (zM n x s).1 x t).1,(zM n x s).2++(zM (zM n x s).1 x t).2):=by
 by_cases h:n.phase=3
 ·have e:∀s,zM n x s=(n,[]):=fun s=>by rw [zM,if_pos h]
  rw [e,e,if_pos h]
 ·have e:∀s,zM n x s=zI x (n.buf.length+s.length+2) { n with buf:=n.buf++s } []:=fun s=>by rw [zM,if_neg h]
  rw [e,e]
  have:=zjZ (x:=x) t (n.buf.length+s.length+2) { n with buf:=n.buf++s } ba (n.buf.length+(s++t).length+2) ba
  simp only [List.append_assoc] at this
  rw [this]
  split
  ·rfl
  ·rename_i h3
   rw [zM,if_neg h3]
   obtain ⟨M,hM⟩:∃M,M=zI x (n.buf.length+s.length+2) { n with buf:=n.buf++s } []:=⟨_,rfl⟩
   rw [← hM]
   have:=zfY (x:=x) (M.1.buf.length+t.length+1) (M.1.buf.length+t.length+2) { M.1 with buf:=M.1.buf++t } [] ba ba
   rw [this]
theorem zuD {s t:Txt} (h:(reqRd s).2.2≠22):reqRd (s++t)=((reqRd s).1,if (reqRd s).2.2=0 then (reqRd s).2.1++t else [],(reqRd s).2.2):=by
 unfold reqRd at h
 split at h
 ·rename_i h1
  unfold reqRd
  rw [if_pos (zqf (hd:=reqHd) (k:=4) rfl h1),if_pos h1]
  rfl
 rename_i h1
 split at h
 ·exact absurd rfl h
 rename_i h2
 have e1:∀i k,i+k≤28→numAt (s++t) i k=numAt s i k:=fun i k hi=>zgz U
 have h3:¬(s++t).take 4≠reqHd.take (s++t).length:=not_not_intro (zqg (hd:=reqHd) (k:=4) rfl U (Classical.not_not.1 h1))
 have h4:¬(s++t).length<28:=aR
 have e2:∀d,reqQ (s++t) d=reqQ s d:=fun d=>by
  unfold reqQ
  rw [e1 4 2 U,e1 6 2 U,e1 8 8 U,e1 16 8 U,e1 24 4 U]
 unfold reqRd
 rw [if_neg h3,if_neg h4,e1 6 2 U,e1 24 4 U,e2,e2,if_neg h1,if_neg h2]
 split at h
 ·rename_i h5
  rw [if_pos h5,if_pos h5,List.drop_append_of_le_length U]
  rfl
 rename_i h5
 rw [if_neg h5,if_neg h5]
 split at h
 ·rename_i h6
  rw [if_pos h6,if_pos h6]
  rfl
 rename_i h6
 rw [if_neg h6,if_neg h6]
 split at h
 ·exact absurd rfl h
 rename_i h7
 rw [if_neg aR,if_neg h7,zqh U,List.drop_append_of_le_length U]
 rfl
theorem zd9 {s:Txt} (h:(reqRd s).2.2=0):(reqRd s).2.1.length+28≤s.length:=by
 unfold reqRd at*
 split at h
 ·cases h
 rename_i g1
 split at h
 ·cases h
 rename_i g2
 rw [if_neg g1,if_neg g2]
 split at h
 ·rename_i g3
  rw [if_pos g3]
  simp only [List.length_drop]
  omega
 rename_i g3
 rw [if_neg g3]
 split at h
 ·cases h
 rename_i g4
 split at h
 ·cases h
 rename_i g5
 rw [if_neg g4,if_neg g5]
 simp only [List.length_drop]
 omega
theorem zbb {size:Int} {k:Nat} {c:Cn} (h:¬(c.n.phase=2∧c.gone=false∧c.tasks.length<8)):zaV size k c=c:=by
 cases k with
 |zero=>rfl
 |succ k=>rw [zaV,if_neg h]
def cnOne (size:Int) (c:Cn):Cn:=
 if zau (reqRd c.n.buf).1 size c.n.chunks c.n.metas≠0 then { c with n:= { c.n with buf:=(reqRd c.n.buf).2.1 },out:=c.out++zb8 (reqRd c.n.buf).1 (zau (reqRd c.n.buf).1 size c.n.chunks c.n.metas) c.n.chunks }
 else { c with n:= { c.n with buf:=(reqRd c.n.buf).2.1 },tasks:=c.tasks++ [tnew (reqRd c.n.buf).1] }
theorem zcK {size:Int} {k:Nat} {c:Cn} (h:c.n.phase=2∧c.gone=false∧c.tasks.length<8):zaV size (k+1) c=if (reqRd c.n.buf).2.2=22 then c else if (reqRd c.n.buf).2.2≠0∨(reqRd c.n.buf).1.kind=2∧zau (reqRd c.n.buf).1 size c.n.chunks c.n.metas=0 then zcp c else zaV size k (cnOne size c):=by
 rw [zaV,if_pos h]
 unfold cnOne
 split
 ·rfl
 split
 ·rfl
 split<;>rfl
theorem ze5 {size:Int} {c:Cn} :(cnOne size c).n.buf=(reqRd c.n.buf).2.1:=by
 unfold cnOne
 split<;>rfl
theorem zea {size:Int} {c:Cn} :(cnOne size c).gone=c.gone:=by
 unfold cnOne
 split<;>rfl
theorem ziO {size:Int} :∀ (k m:Nat) (c:Cn),c.n.buf.length+1≤k→c.n.buf.length+1≤m→zaV size k c=zaV size m c
 |0,m,c,hk,hm=>U
 |k+1,0,c,hk,hm=>U
 | k+1,m+1,c,hk,hm=>by
  by_cases h:c.n.phase=2∧c.gone=false∧c.tasks.length<8
  ·rw [zcK h,zcK h]
   split
   ·rfl
   split
   ·rfl
   rename_i h2
   have h3:(reqRd c.n.buf).2.2=0:=Classical.not_not.1 (fun e=>h2 (.inl e))
   have h4:=zd9 h3
   exact ziO k m _ cQ cQ
  ·rw [zbb h,zbb h]
def cnApp (c:Cn) (t:Txt):Cn:= { c with n:= { c.n with buf:=c.n.buf++t } }
theorem zj0 {size:Int} (t:Txt):∀ (k:Nat) (c:Cn),c.gone=false→c.n.buf.length+1≤k→∀m,c.n.buf.length+t.length+1≤m→
  zaV size m (cnApp c t)=if (zaV size k c).gone then zaV size k c else zal size (cnApp (zaV size k c) t)
 |0,c,hg,hk,m,hm=>U
 | k + 1,c,hg,hk,m,hm=>by
  have e0:(cnApp c t).n.buf.length=c.n.buf.length+t.length:=by simp [cnApp]
  by_cases h:c.n.phase=2∧c.gone=false∧c.tasks.length<8
  ·obtain ⟨m,rfl⟩:∃m',m=m'+1:=⟨m - 1,U⟩
   rw [zcK h]
   by_cases h1:(reqRd c.n.buf).2.2=22
   ·rw [if_pos h1,if_neg (by rw [hg];decide)]
    exact ziO _ _ _ U U
   ·have e1:=zuD (t:=t) h1
    have e2:zaV size (m+1) (cnApp c t)=if (reqRd (c.n.buf++t)).2.2=22 then cnApp c t else if (reqRd (c.n.buf++t)).2.2≠0∨(reqRd (c.n.buf++t)).1.kind=2∧zau (reqRd (c.n.buf++t)).1 size c.n.chunks c.n.metas=0 then zcp (cnApp c t) else zaV size m (cnOne size (cnApp c t)):=zcK (c:=cnApp c t) h
    rw [e2]
    have e3:reqRd (cnApp c t).n.buf=reqRd (c.n.buf++t):=rfl
    rw [e1,if_neg h1,if_neg h1]
    by_cases h2:(reqRd c.n.buf).2.2≠0∨(reqRd c.n.buf).1.kind=2∧zau (reqRd c.n.buf).1 size c.n.chunks c.n.metas=0
    ·rw [if_pos h2,if_pos h2,if_pos (show (zcp c).gone=true from rfl)]
     rfl
    ·have h3:(reqRd c.n.buf).2.2=0:=Classical.not_not.1 (fun e=>h2 (.inl e))
     have h4:=zd9 h3
     have e4:cnOne size (cnApp c t)=cnApp (cnOne size c) t:=by
      unfold cnOne
      rw [e3,e1,if_pos h3]
      by_cases h5:zau (reqRd c.n.buf).1 size c.n.chunks c.n.metas≠0
      ·rw [if_pos h5]
       exact if_pos h5
      ·rw [if_neg h5]
       exact if_neg h5
     rw [if_neg h2,if_neg h2,e4]
     exact zj0 t k (cnOne size c) (by rw [zea];exact hg) cQ m cQ
  ·rw [zbb h,zbb (c:=cnApp c t) h,if_neg (by rw [hg];decide),zal,zbb (c:=cnApp c t) h]
theorem zoY {size:Int} (t:Txt) (c:Cn) (hg:c.gone=false):zal size (cnApp c t)=if (zal size c).gone then zal size c else zal size (cnApp (zal size c) t):=by
 have:=zj0 (size:=size) t (c.n.buf.length+1) c hg (Nat.le_refl _) ((cnApp c t).n.buf.length+1) (by simp [cnApp])
 exact this
theorem zhA {size:Int} :∀ (k:Nat) (c:Cn),(zaV size k c).n.phase=c.n.phase
 |0,c=>rfl
 | k+1,c=>by
  by_cases h:c.n.phase=2∧c.gone=false∧c.tasks.length<8
  ·rw [zcK h]
   split
   ·rfl
   split
   ·rfl
   rw [zhA k]
   unfold cnOne
   split<;>rfl
  ·rw [zbb h]
theorem zbz {size:Int} {k:Nat} {c:Cn} (h:c.gone=true):zaV size k c=c:=zbb (by rw [h];simp)
theorem zrJ (x:Img) (c:Cn) (s t:Txt) (hg:c.gone=false) (h3:c.n.phase=0∨c.n.phase=1∨c.n.phase=2∨c.n.phase=3) (hp:∀s,(zM c.n (xpOf x) s).1.phase=0∨(zM c.n (xpOf x) s).1.phase=1∨(zM c.n (xpOf x) s).1.phase=2∨(zM c.n (xpOf x) s).1.phase=3):
  zdQ x c (s++t)=if (zdQ x c s).gone then zdQ x c s else zdQ x (zdQ x c s) t:=by
 unfold zdQ
 rw [zrI]
 obtain ⟨N,hN⟩:∃N,N=zM c.n (xpOf x) s:=⟨_,rfl⟩
 have hpN:=hp s
 rw [← hN] at hpN ⊢
 by_cases hd:N.1.phase=3
 ·rw [if_pos hd]
  have e1:zca { c with n:=N.1,out:=c.out++N.2 } =zcp { c with n:=N.1,out:=c.out++N.2 } :=by rw [zca,if_pos hd]
  rw [e1,zal,zbz rfl,if_pos (show (zcp _).gone=true from rfl)]
 ·rw [if_neg hd]
  have e1:zca { c with n:=N.1,out:=c.out++N.2 } = { c with n:=N.1,out:=c.out++N.2 } :=by rw [zca,if_neg hd]
  rw [e1]
  simp only
  by_cases h2:N.1.phase=2
  ·have e2:∀ (m:Ng),m.phase=2→zM m (xpOf x) t=({ m with buf:=m.buf++t },[]):=fun m hm=>by
    rw [zM,if_neg U,zbY au,ngClr,if_neg au]
   have e3:=zoY (size:=128*x.geom.guest) t { c with n:=N.1,out:=c.out++N.2 } hg
   obtain ⟨T,hT⟩:∃T,T=zal (128*x.geom.guest) { c with n:=N.1,out:=c.out++N.2 } :=⟨_,rfl⟩
   have hTp:T.n.phase=2:=by rw [hT,zal,zhA];exact h2
   rw [← hT] at e3 ⊢
   rw [e2 _ h2,e2 _ hTp]
   have e4:zca { c with n:= { N.1 with buf:=N.1.buf++t },out:=c.out++(N.2++ []) } =cnApp { c with n:=N.1,out:=c.out++N.2 } t:=by
    rw [zca,if_neg au,cnApp,List.append_nil]
   have e5:zca { T with n:= { T.n with buf:=T.n.buf++t },out:=T.out++ [] } =cnApp T t:=by
    rw [zca,if_neg au,cnApp,List.append_nil]
   simp only
   rw [e4,e5,e3]
  ·have e2:zal (128*x.geom.guest) { c with n:=N.1,out:=c.out++N.2 } = { c with n:=N.1,out:=c.out++N.2 } :=by
    rw [zal,zbb (fun h=>h2 h.1)]
   rw [e2,if_neg (by simp only;rw [hg];decide)]
   simp only [List.append_assoc]
theorem zrK (v:Srv) (c:Int) (s t:Txt) (h3:∀o∈v.conns,o.n.phase=0∨o.n.phase=1∨o.n.phase=2∨o.n.phase=3) (hp:∀o∈v.conns,∀s,(zM o.n (xpOf v.x) s).1.phase=0∨(zM o.n (xpOf v.x) s).1.phase=1∨(zM o.n (xpOf v.x) s).1.phase=2∨(zM o.n (xpOf v.x) s).1.phase=3):zbl (zbl v c s) c t=zbl v c (s++t):=by
 rcases Int.lt_or_le c 0 with hc|hc
 ·unfold zbl
  simp only [if_pos hc]
 cases ho:v.conns[c.toNat]? with
 |none=>
  have e:∀s,zbl v c s=v:=fun s=>by rw [zbl,if_neg U,ho]
  rw [e,e,e]
 | some o=>
  have hm:o∈v.conns:=List.mem_of_getElem? ho
  cases hg:o.gone with
  |true=>
   have e:∀s,zbl v c s=v:=fun s=>by rw [zbl,if_neg U,ho];simp only [hg,if_true]
   rw [e,e,e]
  |false=>
   have e:∀s,zbl v c s= { v with conns:=v.conns.set c.toNat (zdQ v.x o s) } :=fun s=>by rw [zbl,if_neg U,ho];simp only [hg,Bool.false_eq_true,if_false]
   rw [e,e,zrJ v.x o s t hg (h3 o hm) (hp o hm)]
   have hlt:c.toNat<v.conns.length:=(List.getElem?_eq_some_iff.1 ho).1
   have e2:(v.conns.set c.toNat (zdQ v.x o s))[c.toNat]?=some (zdQ v.x o s):=List.getElem?_set_self hlt
   rw [zbl,if_neg U]
   simp only [e2]
   split
   ·rfl
   ·simp only [List.set_set]
theorem zlp {n:Ng} {x:Xp} {k:Int} {d:Txt} :(za5 n x k d).1.phase=n.phase:=by
 unfold za5
 repeat' split
 all_goals rfl
theorem zna {n:Ng} {x:Xp} (hp:n.phase=0∨n.phase=1):(ngStep n x).1.phase=0∨(ngStep n x).1.phase=1∨(ngStep n x).1.phase=2∨(ngStep n x).1.phase=3:=by
 unfold ngStep
 split
 ·split
  ·simp only;omega
  ·simp only
   split<;>simp
 split
 ·simp only;omega
 split
 ·simp
 unfold ngOpt
 repeat' split
 all_goals first|(rw [zlp];simp only;omega)|(simp only;omega)|simp
theorem zhB {x:Xp} :∀ (k:Nat) (n:Ng) (out:Txt),(n.phase=0∨n.phase=1∨n.phase=2∨n.phase=3)→((zI x k n out).1.phase=0∨(zI x k n out).1.phase=1∨(zI x k n out).1.phase=2∨(zI x k n out).1.phase=3)
 |0,n,out,h=>by
  rw [zI,ngClr]
  split<;>exact h
 | k+1,n,out,h=>by
  rw [zI]
  split
  ·rename_i hp
   split
   ·exact zhB k _ _ (zna hp)
   ·exact h
  ·rw [ngClr]
   split<;>exact h
theorem ze6 {n:Ng} {x:Xp} (h:n.phase=0∨n.phase=1∨n.phase=2∨n.phase=3) (s:Txt):(zM n x s).1.phase=0∨(zM n x s).1.phase=1∨(zM n x s).1.phase=2∨(zM n x s).1.phase=3:=by
 unfold zM
 split
 ·exact h
 ·exact zhB _ _ _ h
open Go Go.Proofs
structure Tw where
 q:Rq
 cuts:List (Nat×Nat×Nat)
 loc:Int
 err:Int
 data:Txt
 spans:List Spn
 done:Bool
 x:Img
 ms:List Int
 c0:Int
 c1:Int
 c2:Int
def twV (s:Tw) (v:AV):List AV:= [.d (.int .i64 s.q.flags),.d (.int .i64 s.q.kind),.d (.int .u64 s.q.cookie),.d (.int .u64 s.q.frm),.d (.int .u32 s.q.len),.d (.str s.q.data),.d (.sl 3 (s.cuts.map cutD)),.d (.int .i64 s.loc),.d (.int .u32 s.err),.d (.str s.data),v,.d (.bool s.done),.d (.str s.x.disk.data),.d (.sl 2 (s.x.disk.cache.map putD)),.d (.int .i64 s.x.disk.fuse),.d (.bool s.x.disk.off),.d (.sl 1 (s.x.disk.bad.map intD)),.d (.int .i64 s.x.geom.guest),.d (.int .i64 s.x.geom.host),.d (.int .u64 s.x.jour.seq),.d (.int .i64 s.x.jour.pos),.d (.sl 66 (s.x.maps.map dmapD)),.d (.bool s.x.broken),.d (.sl 1 (s.ms.map u32D)),.d (.int .i64 s.c0),.d (.int .i64 s.c1),.d (.int .i64 s.c2)]
attribute [go_sem] twV
theorem zxg {s:Tw} {v:AV} (hv:v.ids= []):∀j∈(AObj.var (twV s v)).ids,j=4:=by
 simp [AObj.ids,twV,AV.idsL,AV.ids,hv]
open Go Go.Proofs
theorem zrV (m n:Ng) (hp:m.metas.length≤1000000∧n.metas.length≤1000000):AC 46 [ngA m,ngA n] (.d (.bool (decide (m=n)))):=by
 obtain ⟨hm,hn⟩:=hp
 obtain ⟨V,hV⟩:∃V,V=decide (m=n):=⟨_,rfl⟩
 rw [← hV]
 by_cases hb:m.phase=n.phase∧m.buf=n.buf∧m.brief=n.brief∧m.chunks=n.chunks∧m.metas.length=n.metas.length
 ·have hc:((((m.phase !=n.phase||m.buf !=n.buf)||m.brief !=n.brief)||m.chunks !=n.chunks)||((m.metas.length:Int) !=(n.metas.length:Int)))=false:=by
   obtain ⟨a,b,c,d,e⟩:=hb
   rw [a,b,c,d,e];simp
  have hVe:V=decide (m.metas=n.metas):=by
   rw [hV]
   obtain ⟨a,b,c,d,e⟩:=hb
   cases m;cases n
   simp only at a b c d
   subst a;subst b;subst c;subst d
   simp
  refine fbod Tryz.func46 Tryz.ntmps46 (fun base=>?_)
  refine' zc hc
  refine zk (fun q: { i:Nat // i≤m.metas.length∧m.metas.take i=n.metas.take i } =>⟨[(2,true,.vp 0 0),(3,true,.vp 1 0),(5,true,.d (.int .i64 q.1))],[(1,.var [.d (.int .i64 n.phase),.d (.str n.buf),.d (.bool n.brief),.d (.bool n.chunks),.d (.sl 1 (n.metas.map u32D))]),(0,.var [.d (.int .i64 m.phase),.d (.str m.buf),.d (.bool m.brief),.d (.bool m.chunks),.d (.sl 1 (m.metas.map u32D))])],some []⟩) (fun q=>m.metas.length - q.1) ⟨0,Nat.zero_le _,rfl⟩ le1 (fun q=>?_)
  obtain ⟨i,hi,ht⟩:=q
  simp only at hi ht ⊢
  rcases zy u32D m.metas i hi with ⟨a,hq,hlt,hcmp,hrow,hdr,htk⟩|⟨hend,hcmp⟩
  ·rcases zy u32D n.metas i U with ⟨b,hq2,hlt2,hcmp2,hrow2,hdr2,htk2⟩|⟨hend2,hcmp2⟩
   ·simp only [u32D] at hrow hrow2
    have hwi:=zn (i:=i) U
    by_cases hab:a=b
    ·have hbb:(a !=b)=false:=by simpa using hab
     refine' zc (zE hcmp hrow hrow2 hbb)
     all_goals first|omega|skip
     exact ⟨⟨i+1,U,by rw [htk,htk2,ht,hab]⟩,lev,af⟩
    ·have hbb:(a !=b)=true:=by simpa using hab
     refine' zc (zE hcmp hrow hrow2 hbb)
     all_goals first|omega|skip
     rw [hVe,decide_eq_false (fun e=>hab (by rw [e,hq2] at hq;exact (Option.some.inj hq).symm))]
   ·omega
  ·subst hend
   refine' zc hcmp
   rw [List.take_length,hb.2.2.2.2,List.take_length] at ht
   rw [hVe,decide_eq_true ht]
 ·have hc:((((m.phase !=n.phase||m.buf !=n.buf)||m.brief !=n.brief)||m.chunks !=n.chunks)||((m.metas.length:Int) !=(n.metas.length:Int)))=true:=by
   apply Classical.byContradiction
   intro e
   apply hb
   simp only [Bool.not_eq_true,Bool.or_eq_false_iff,bne_eq_false_iff_eq] at e
   obtain ⟨⟨⟨⟨a,b⟩,c⟩,d⟩,f⟩:=e
   exact ⟨a,b,c,d,U⟩
  have hVe:V=false:=by
   rw [hV]
   exact decide_eq_false (fun e=>hb (by rw [e];exact ⟨rfl,rfl,rfl,rfl,rfl⟩))
  refine fbod Tryz.func46 Tryz.ntmps46 (fun base=>?_)
  refine' zc hc
  rw [hVe]
@[go_sem] noncomputable def zbu:Ent Tryz.prog 46:= .m2 ngA_T ngA_T zrV
open Go Go.Proofs
theorem zwL {X:List (List D)} {i:Nat} {z:List D} (hi:i<X.length):rput (rput X i (X.drop (i+1))) (X.length - 1) [z]=X.eraseIdx i++ [z]:=by
 have e:rput X i (X.drop (i+1))=X.eraseIdx i++X.drop (X.length - 1):=by
  unfold rput
  rw [List.eraseIdx_eq_take_drop_succ,List.length_drop,show i+(X.length - (i+1))=X.length - 1 by omega]
 have hl:(X.eraseIdx i).length=X.length - 1:=List.length_eraseIdx_of_lt hi
 rw [e]
 unfold rput
 rw [List.take_append_of_le_length U,List.take_of_length_le U,List.drop_of_length_le (by rw [List.length_append,List.length_drop];simp;omega),List.append_nil]
def tskZ:List D:= [.int .i64 0,.int .i64 0,.int .u64 0,.int .u64 0,.int .u32 0,.str [],.sl 3 [],.int .i64 0,.int .u32 0,.str [],.sl 2 [],.bool false]
theorem zwM (ts:List Tsk) (i:Nat) (hi:i<ts.length) (hl:ts.length≤1000):ACall Tryz.prog 52 40 [.osl 34 12 ts.length 0 ts.length,.d (.int .i64 i),.d (.int .i64 (i+1:Nat))] [(34,.arr 12 (ts.map tskD))] (fun r h'=>r= .osl 34 12 ts.length 0 (ts.length - 1)∧h'= [(34,.arr 12 ((ts.eraseIdx i).map tskD++ [tskZ]))]):=by
 refine za6 (fun i=>decide (i<40)) ?_
 obtain ⟨X,hX⟩:∃X,X=ts.map tskD:=⟨_,rfl⟩
 have hXl:X.length=ts.length:=by rw [hX,List.length_map]
 rw [← hX]
 refine bod Tryz.func52 Tryz.ntmps52 (fun base=>?_)
 have he:((i:Int)==((i+1:Nat):Int))=false:=af
 have hne:(i=ts.length)=False:=eq_false U
 have hdr:(List.drop (i+1) X).take (ts.length - (i+1))=X.drop (i+1):=List.take_of_length_le ar
 have hdl:(X.drop (i+1)).length=ts.length - (i+1):=by rw [List.length_drop,hXl]
 have hil:i+(ts.length - (i+1))=ts.length - 1:=U
 have hi1:(i+1+(ts.length - (i+1))≤ts.length)=True:=eq_true U
 have hz:i - 0=i:=rfl
 have hrl:(rput X i (X.drop (i+1))).length=ts.length:=by unfold rput;simp;omega
 refine' zc (zo he hne hdr hdl hil (zaB hXl @natC hi1 hz hrl))
 rw [← hXl,show X.length - (X.length - 1)=1 by omega,List.replicate_one,zwL U,hX,List.eraseIdx_eq_take_drop_succ,List.eraseIdx_eq_take_drop_succ]
 simp only [List.map_append,List.map_take,List.map_drop,tskZ]
end Go.Aw
