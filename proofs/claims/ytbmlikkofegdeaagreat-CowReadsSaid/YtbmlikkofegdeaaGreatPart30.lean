/-
  Parts of the proof: ViewA, ViewB, AuditA, SnapA, ShareA, SnapB, SnapC, ViewC, SnapL (short names; the readable texts lie in the repo, under wip).
-/
import Derived.Test.YtbmlikkofegdeaaGreatPart29
import Derived.Test.YtbmlikkofegdeaaGreatPart17
import Derived.Test.YtbmlikkofegdeaaGreatPart25
import Derived.Test.YtbmlikkofegdeaaGreatPart26
set_option maxRecDepth 100000
set_option maxHeartbeats 2000000
set_option linter.unusedSimpArgs false
set_option linter.unusedVariables false
namespace Go.Aw
open Go Go.Proofs
theorem zfi {d d':Disk} (h:d'.data.length=d.data.length) (a:Int):there d' a=there d a:=by unfold there dsize;rw [h]
theorem zgP (d:Disk):(burnt d).off=d.off:=by unfold burnt;split<;>rfl
theorem zeN (d:Disk):(burnt d).bad=d.bad:=by unfold burnt;split<;>rfl
theorem zhR (d:Disk) (a:Int):sees (burnt d) a=sees d a:=by unfold sees;rw [zct,zce]
theorem zgQ {d:Disk} {a:Int} {s:Txt} (h:(zD d a s).2=0):
  d.off=false∧there d a=true∧d.bad.contains a=false∧s.length=64∧(zD d a s).1=burnt { d with cache:=d.cache++ [(a,s)] } :=by
 unfold zD at h ⊢
 split at h
 ·exact absurd h (by simp)
 split at h
 ·exact absurd h (by simp)
 split at h
 ·exact absurd h (by simp)
 split at h
 ·exact absurd h (by simp)
 split at h
 ·exact absurd h (by simp)
 split at h
 ·exact absurd h (by simp)
 rename_i h1 h2 h3 h4 h5 h6
 refine ⟨by simpa using h1,by simpa using h2,by simpa using h5,by omega,?_⟩
 rw [if_neg h1,if_neg h2,if_neg h3,if_neg h4,if_neg h5,if_neg h6]
theorem zev {d:Disk} {a:Int} {s:Txt} (h:(zD d a s).2=0) (b:Int):
  dread (zD d a s).1 b=if b=a then (s,0) else dread d b:=by
 obtain ⟨h1,h2,h3,h4,h5⟩:=zgQ h
 rw [h5]
 unfold dread
 rw [zgP,zeN,zhR,zfi (d:=d) (by rw [zce])]
 simp only [h1,Bool.false_eq_true,if_false]
 have hs:sees { d with cache:=d.cache++ [(a,s)] } b=if b=a then s else sees d b:=by
  unfold sees
  simp only [List.reverse_append,List.reverse_singleton,List.singleton_append,List.find?_cons,isPut]
  by_cases e:b=a
  ·subst e;simp
  ·have:(a==b)=false:=by simpa using fun h=>e h.symm
   simp only [this,if_neg e]
 have hs2:sees { data:=d.data,cache:=d.cache++ [(a,s)],fuse:=d.fuse,off:=false,bad:=d.bad } b=if b=a then s else sees d b:=by rw [← hs,← h1]
 rw [hs2]
 by_cases e:b=a
 ·subst e
  simp only [h2,h3,Bool.not_true,Bool.false_eq_true,if_false,if_true]
 ·simp only [if_neg e]
theorem zkW {d:Disk} (h:(dflush d).2=0):d.off=false∧(dflush d).1=burnt { d with data:=zcq d.data d.cache,cache:= [] } :=by
 unfold dflush at h ⊢
 split at h
 ·exact absurd h (by simp)
 split at h
 ·exact absurd h (by simp)
 rename_i h1 h2
 rw [if_neg h1,if_neg h2]
 exact ⟨by simpa using h1,rfl⟩
theorem zsd {b:Txt} {k:Nat} {s:Txt} (hs:s.length=64) (hk:k*64+64≤b.length) (i:Nat):
  ((lay b (k*64) s).drop (i*64)).take 64=if i=k then s else (b.drop (i*64)).take 64:=by
 unfold lay
 split
 ·rename_i e
  subst e
  have hl:(b.take (i*64)).length=i*64:=by rw [List.length_take];omega
  rw [List.append_assoc,List.drop_append_of_le_length (by omega),List.drop_of_length_le (by omega),List.nil_append,List.take_append_of_le_length (by omega),List.take_of_length_le (by omega)]
 ·rename_i e
  rcases Nat.lt_or_ge i k with hlt|hge
  ·have hl:(b.take (k*64)).length=k*64:=by rw [List.length_take];omega
   have hm:i*64+64≤k*64:=by omega
   rw [List.append_assoc,List.drop_append_of_le_length (by omega),List.take_append_of_le_length (by rw [List.length_drop];omega),List.drop_take,List.take_take,Nat.min_eq_left (by omega)]
  ·have hm:k*64+64≤i*64:=by omega
   have hl:(b.take (k*64)++s).length=k*64+64:=by rw [List.length_append,List.length_take];omega
   rw [List.drop_append,List.drop_of_length_le (by omega),List.nil_append,hl,List.drop_drop,hs]
   congr 2
   omega
theorem zhS {d:Disk} :∀ (l:List PutR) (b:Txt),b.length=d.data.length→l.all (putOk d)=true→∀ (a:Int),0≤a→
  ((zcq b l).drop (a*64).toNat).take 64=match l.reverse.find? (isPut a) with|some q=>q.2|none=>(b.drop (a*64).toNat).take 64
 | [],b,hb,hl,a,ha=>rfl
 | q::l,b,hb,hl,a,ha=>by
  simp only [List.all_cons,Bool.and_eq_true] at hl
  obtain ⟨h1,h2⟩:=hl
  unfold putOk at h1
  rw [Bool.and_eq_true,there_iff,beq_iff_eq] at h1
  obtain ⟨⟨h3,h4⟩,h5⟩:=h1
  obtain ⟨m,hm⟩:∃m:Nat,q.1=m:=⟨q.1.toNat,by omega⟩
  obtain ⟨i,rfl⟩:∃i:Nat,a=i:=⟨a.toNat,by omega⟩
  have hq:(q.1*64).toNat=m*64:=by omega
  have hk:m*64+64≤b.length:=by omega
  have hlen:(lay b (m*64) q.2).length=b.length:=zio (by omega)
  have ih:=zhS l (lay b (m*64) q.2) (by omega) h2 i (by omega)
  show (List.drop _ (zcq (lay b (q.1*64).toNat q.2) l)).take 64=_
  rw [hq,ih,List.reverse_cons,List.find?_append]
  cases hf:l.reverse.find? (isPut (i:Int)) with
  |some x=>simp
  | none=>
   simp only [Option.none_or,List.find?_singleton,isPut]
   have hs:=zsd (b:=b) (k:=m) (s:=q.2) (by omega) hk i
   have hi:((i:Int)*64).toNat=i*64:=by omega
   rw [hi,hs]
   by_cases e:i=m
   ·subst e
    simp [hm]
   ·have:(q.1==(i:Int))=false:=by rw [hm];simp;omega
    simp [this,e]
theorem zgR {d:Disk} (hd:DiskF d) (h:(dflush d).2=0) (b:Int):dread (dflush d).1 b=dread d b:=by
 obtain ⟨h1,h2⟩:=zkW h
 have hl:(zcq d.data d.cache).length=d.data.length:=zhF hd.puts
 rw [h2]
 unfold dread
 rw [zgP,zeN,zhR,zfi (d:=d) (by rw [zce];exact hl)]
 by_cases ht:there d b=true
 ·have hs:sees { d with data:=zcq d.data d.cache,cache:= [] } b=sees d b:=by
   unfold sees
   simp only [List.reverse_nil,List.find?_nil]
   rw [there_iff] at ht
   exact zhS (d:=d) d.cache d.data rfl hd.puts b ht.1
  rw [hs]
 ·have ht:(!there d b)=true:=by simpa using ht
  simp only [ht,if_true]
def zdB (l:List (Int×Txt)) (b:Int):Option Txt:=(l.reverse.find? (fun q=>q.1==b)).map (·.2)
theorem zbL (q:Int×Txt) (l:List (Int×Txt)) (b:Int):zdB (q::l) b=(zdB l b).or (if q.1=b then some q.2 else none):=by
 unfold zdB
 rw [List.reverse_cons,List.find?_append]
 cases hf:l.reverse.find? (fun q=>q.1==b) with
 |some x=>simp
 | none=>
  by_cases e:q.1=b
  ·simp [e]
  ·have:(q.1==b)=false:=by simpa using e
   simp [this,e]
theorem zcg:∀ (l:List (Int×Txt)) {d:Disk},(layL d l).2=0→∀b,dread (layL d l).1 b=match zdB l b with|some s=>(s,0)|none=>dread d b
 | [],d,h,b=>rfl
 | q::l,d,h,b=>by
  rw [layL] at h ⊢
  by_cases hw:(zD d q.1 q.2).2=0
  ·rw [if_neg (by omega)] at h ⊢
   rw [zcg l h b,zbL]
   cases zdB l b with
   |some x=>rfl
   |none=>
    simp only [Option.none_or]
    rw [zev hw]
    by_cases e:q.1=b
    ·rw [if_pos e.symm,if_pos e]
    ·rw [if_neg (fun h=>e h.symm),if_neg e]
  ·rw [if_pos hw] at h
   exact absurd h hw
theorem zlW:∀ (l:List Txt) (a:Int) (q:Int×Txt),q∈numF a l→a≤q.1∧q.1<a+l.length
 | [],a,q,h=>by cases h
 | s::l,a,q,h=>by
  rw [numF,List.mem_cons] at h
  rcases h with rfl|h
  ·simp only [List.length_cons];omega
  ·have:=zlW l (a+1) q h
   simp only [List.length_cons];omega
theorem zgS {l:List (Int×Txt)} {b:Int} (h:∀q∈l,q.1≠b):zdB l b=none:=by
 unfold zdB
 rw [List.find?_eq_none.2]
 ·rfl
 ·intro q hq
  have:=h q (List.mem_reverse.1 hq)
  simpa using this
theorem zjG:∀ (t:List Int) (s:List Txt) (seen:List Int),pfitL seen t s=true→t.length=s.length→∀x∈t,x ∉ seen
 | [],_,_,_,_,x,h=>by cases h
 |a::r,[],_,_,hl,x,h=>by simp at hl
 |a::r,s::q,seen,hp,hl,x,h=>by
  simp only [pfitL,Bool.and_eq_true,Bool.not_eq_true'] at hp
  obtain ⟨⟨⟨_,h2⟩,_⟩,h4⟩:=hp
  rcases List.mem_cons.1 h with rfl|h
  ·simpa using h2
  ·exact fun hx=>zjG r q (seen++ [a]) h4 (by simpa using hl) x h (by simp [hx])
theorem zhT:∀ (t:List Int) (s:List Txt) (seen:List Int),pfitL seen t s=true→t.length=s.length→∀b,zdB (t.zip s) b=if 0≤pfind t b then some (s.getD (pfind t b).toNat []) else none
 | [],s,seen,hp,hl,b=>by simp [zdB,pfind,idxP]
 |a::r,[],seen,hp,hl,b=>by simp at hl
 | a :: r,x::q,seen,hp,hl,b=>by
  have hp0:=hp
  simp only [pfitL,Bool.and_eq_true,Bool.not_eq_true'] at hp
  obtain ⟨⟨⟨_,h2⟩,_⟩,h4⟩:=hp
  have hl':r.length=q.length:=by simpa using hl
  have ih:=zhT r q (seen++ [a]) h4 hl' b
  have hn:=zjG r q (seen++ [a]) h4 hl'
  rw [List.zip_cons_cons,zbL,ih]
  have hidx:∀ (l:List Int) (k:Nat),idxP (fun y=>y==b) l k=if 0≤pfind l b then pfind l b+k else -1:=by
   intro l
   unfold pfind
   have hg:∀ (l:List Int) (k:Nat),idxP (fun y=>y==b) l k=if 0≤idxP (fun y=>y==b) l 0 then idxP (fun y=>y==b) l 0+k else -1:=by
    intro l
    induction l with
    |nil=>intro k;simp [idxP]
    | cons y l ih=>
     intro k
     simp only [idxP]
     by_cases e:(y==b)=true
     ·simp [e]
     ·simp only [e]
      have h1:=ih (k+1)
      have h2:=ih (0+1)
      by_cases h0:0≤idxP (fun y=>y==b) l 0
      ·rw [if_pos h0] at h1 h2
       rw [h1,h2]
       simp only [Bool.false_eq_true,if_false]
       rw [if_pos (by omega)]
       omega
      ·rw [if_neg h0] at h1 h2
       rw [h1,h2]
       simp
   exact hg l
  by_cases e:a=b
  ·subst e
   have hna:¬0≤pfind r a:=by
    intro hge
    rcases zap r a with hc|⟨k,hk,hkl⟩
    ·omega
    ·have:a∈r:=by
      unfold pfind at hge
      have hex:∀ (l:List Int) (k:Nat),0≤idxP (fun y=>y==a) l k→a∈l:=by
       intro l
       induction l with
       |nil=>intro k h;simp [idxP] at h
       | cons y l ih=>
        intro k h
        simp only [idxP] at h
        by_cases e:(y==a)=true
        ·have:y=a:=by simpa using e
         simp [this]
        ·simp only [e,if_false] at h
         exact List.mem_cons_of_mem _ (ih _ h)
      exact hex r 0 hge
     exact hn a this (by simp)
   rw [if_neg hna]
   have:pfind (a::r) a=0:=by simp [pfind,idxP]
   rw [this]
   simp
  ·have hne:(a==b)=false:=by simpa using e
   have:pfind (a::r) b=if 0≤pfind r b then pfind r b+1 else -1:=by
    show idxP _ _ _=_
    simp only [idxP,hne]
    have:=hidx r (0+1)
    simpa using this
   rw [this]
   by_cases h0:0≤pfind r b
   ·have h2:(pfind r b+1).toNat=(pfind r b).toNat+1:=by omega
    have h3:0≤pfind r b+1:=by omega
    rw [if_pos h0,if_pos h0,if_pos h3,h2]
    simp
   ·rw [if_neg h0,if_neg h0,if_neg e,if_neg (by decide)]
    rfl
theorem zmZ {d:Disk} {p:Plan} (hp:pfit p=true) (h:(play d p).2=0) (b:Int):dread (play d p).1 b=plook d p b:=by
 unfold play at h ⊢
 have hp0:=hp
 simp only [pfit,Bool.and_eq_true,decide_eq_true_eq] at hp
 rw [zcg _ h,zhT _ _ [] hp.2 hp.1.1]
 unfold plook
 split
 ·rename_i s hs
  split at hs
  ·rename_i hge
   rw [if_pos hge]
   simp only [Option.some.injEq] at hs
   rw [hs]
  ·cases hs
 ·rename_i hs
  split at hs
  ·cases hs
  ·rename_i hge
   rw [if_neg hge]
theorem zjH {d:Disk} {j:Jour} {p:Plan} (hd:DiskF d) (hp:pfit p=true) (h:(jcommit d j p).2.2=0) {b:Int} (hb:b<6∨87≤b):dread (jcommit d j p).1 b=plook d p b:=by
 have hlen:=zau hp
 unfold jcommit at h ⊢
 split at h
 ·rename_i h0
  rw [if_pos h0]
  have:p.targets= []:=List.eq_nil_of_length_eq_zero h0
  unfold plook pfind
  rw [this]
  rfl
 rename_i h0
 rw [if_neg h0]
 split at h
 ·exact absurd h (by simp)
 rename_i h1
 rw [if_neg h1]
 split at h
 ·rename_i h2;exact absurd h h2
 rename_i h2
 have h2:(dflush d).2=0:=by simpa using h2
 rw [if_neg (by omega)]
 obtain ⟨L,hL⟩:∃L,L=zb3 j.seq p:=⟨_,rfl⟩
 have hLl:=(ze9 j.seq hp).1
 rw [← hL] at h hLl ⊢
 have hA:=ze8 j.pos L.length
 obtain ⟨A,hAe⟩:∃A,A=zcI j.pos L.length:=⟨_,rfl⟩
 have hAL:A+L.length≤81:=by
  rw [hAe];unfold zcI;split<;>omega
 rw [← hAe] at h hA ⊢
 unfold jtail at h ⊢
 split at h
 ·rename_i h3;exact absurd h h3
 rename_i h3
 have h3:(layL (dflush d).1 (numF (6+A) L)).2=0:=by simpa using h3
 rw [if_neg (by omega)]
 split at h
 ·rename_i h4;exact absurd h h4
 rename_i h4
 have h4:(dflush (layL (dflush d).1 (numF (6+A) L)).1).2=0:=by simpa using h4
 rw [if_neg (by omega)]
 split at h
 ·rename_i h5;exact absurd h h5
 rename_i h5
 have h5:(play (dflush (layL (dflush d).1 (numF (6+A) L)).1).1 p).2=0:=by simpa using h5
 rw [if_neg (by omega)]
 simp only
 rw [zmZ hp h5]
 have hf1:=hd.flush
 have hf2:DiskF (layL (dflush d).1 (numF (6+A) L)).1:=DiskF.layL _ hf1
 have hv:dread (dflush (layL (dflush d).1 (numF (6+A) L)).1).1 b=dread d b:=by
  rw [zgR hf2 h4,zcg _ h3,zgS]
  ·exact zgR hd h2 b
  ·intro q hq
   have:=zlW L (6+A) q hq
   omega
 unfold plook
 rw [hv]
open Go Go.Proofs
theorem zlX {b s:Txt} {k:Nat} (h:k+s.length≤b.length):((lay b k s).drop k).take s.length=s:=by
 have hl:(b.take k).length=k:=by rw [List.length_take];omega
 unfold lay
 rw [List.append_assoc,List.drop_append_of_le_length (by omega),List.drop_of_length_le (by omega),List.nil_append,List.take_append_of_le_length (by omega),List.take_of_length_le (by omega)]
theorem zjI {b s:Txt} {k m n:Nat} (h:k+s.length≤b.length) (ho:m+n≤k∨k+s.length≤m):((lay b k s).drop m).take n=(b.drop m).take n:=by
 unfold lay
 rcases ho with ho|ho
 ·have hl:(b.take k).length=k:=by rw [List.length_take];omega
  rw [List.append_assoc,List.drop_append_of_le_length (by omega),List.take_append_of_le_length (by rw [List.length_drop];omega),List.drop_take,List.take_take,Nat.min_eq_left (by omega)]
 ·have hl:(b.take k++s).length=k+s.length:=by rw [List.length_append,List.length_take];omega
  rw [List.drop_append,List.drop_of_length_le (by omega),List.nil_append,hl,List.drop_drop]
  congr 2
  omega
theorem zoW {s t:Txt} {a:Int} (h:(overS s a t).2=0):0≤a∧a.toNat+t.length≤s.length∧(overS s a t).1=lay s a.toNat t:=by
 unfold overS at h ⊢
 split at h
 ·exact absurd h (by simp)
 rename_i h1
 rw [if_neg h1]
 refine ⟨by omega,by omega,?_⟩
 unfold lay
 rw [show (a+(t.length:Int)).toNat=a.toNat+t.length by omega]
theorem zjJ {l:List Int} {a:Int} {k:Nat} (h:pfind l a=k):l[k]?=some a:=by
 have hg:∀ (l:List Int) (n k:Nat),idxP (fun x=>x==a) l n=((n+k:Nat):Int)→l[k]?=some a:=by
  intro l
  induction l with
  |nil=>intro n k h;simp [idxP] at h;omega
  | cons y l ih=>
   intro n k h
   simp only [idxP] at h
   by_cases e:(y==a)=true
   ·simp only [e,if_true] at h
    have:k=0:=by omega
    subst this
    simpa using e
   ·simp only [e,if_false] at h
    cases k with
    |zero=>
     simp only [Bool.false_eq_true,if_false] at h
     rcases zgv (fun x=>x==a) l (n+1) with hb|hb
     ·rw [hb] at h;omega
     ·omega
    |succ k=>
     simp only [Bool.false_eq_true,if_false] at h
     simpa using ih (n+1) k (by rw [h];congr 1;omega)
 exact hg l 0 k (by rw [Nat.zero_add];exact h)
theorem zoX {l:List Int} {a b:Int} :pfind (l++ [a]) b=if 0≤pfind l b then pfind l b else if a=b then (l.length:Int) else -1:=by
 have hg:∀ (l:List Int) (n:Nat),idxP (fun x=>x==b) (l++ [a]) n=if 0≤idxP (fun x=>x==b) l n then idxP (fun x=>x==b) l n else if a=b then ((n+l.length:Nat):Int) else -1:=by
  intro l
  induction l with
  | nil=>
   intro n
   by_cases e:a=b
   ·simp [idxP,e]
   ·have:(a==b)=false:=by simpa using e
    simp [idxP,e,this]
  | cons y l ih=>
   intro n
   simp only [List.cons_append,idxP]
   by_cases e:(y==b)=true
   ·simp only [e,if_true]
    rw [if_pos (by omega)]
   ·simp only [e,if_false]
    rw [ih (n+1)]
    simp only [List.length_cons]
    rw [show n+1+l.length=n+(l.length+1) by omega]
    rfl
 have:=hg l 0
 rw [Nat.zero_add] at this
 exact this
theorem zaL {d:Disk} {p:Plan} {a:Int} {s:Txt} (h:(pset p a s).2=0) (hl:p.targets.length=p.texts.length) (b:Int):
  plook d (pset p a s).1 b=if b=a then (s,0) else plook d p b:=by
 unfold pset at h ⊢
 split at h
 ·exact absurd h (by simp)
 rename_i h1
 rw [if_neg h1]
 split at h
 ·exact absurd h (by simp)
 rename_i h2
 rw [if_neg h2]
 split at h
 ·rename_i h3
  rw [if_pos h3]
  unfold plook
  simp only
  rcases zap p.targets a with hk|⟨k,hk,hkl⟩
  ·omega
  rw [hk,Int.toNat_natCast]
  by_cases e:b=a
  ·subst e
   rw [if_pos rfl,hk,if_pos (by omega),Int.toNat_natCast]
   simp [List.getD_eq_getElem?_getD,show k<p.texts.length by omega]
  ·rw [if_neg e]
   rcases zap p.targets b with hb|⟨m,hm,hml⟩
   ·rw [if_neg (by omega),if_neg (by omega)]
   ·rw [if_pos (by omega),if_pos (by omega),hm,Int.toNat_natCast]
    have hne:k≠m:=by
     rintro rfl
     have e1:=zjJ hk
     have e2:=zjJ hm
     rw [e1] at e2
     exact e (Option.some.inj e2).symm
    simp [List.getD_eq_getElem?_getD,List.getElem?_set_ne hne]
 ·rename_i h3
  rw [if_neg h3]
  split at h
  ·exact absurd h (by simp)
  rename_i h4
  rw [if_neg h4]
  unfold plook
  simp only
  rw [zoX]
  by_cases e:b=a
  ·subst e
   rw [if_pos rfl,if_neg h3,if_pos rfl,if_pos (by omega),Int.toNat_natCast,hl]
   simp
  ·rw [if_neg e]
   by_cases hb:0≤pfind p.targets b
   ·rw [if_pos hb,if_pos hb,if_pos hb]
    rcases zap p.targets b with hc|⟨m,hm,hml⟩
    ·omega
    ·rw [hm,Int.toNat_natCast,List.getD_eq_getElem?_getD,List.getElem?_append_left (by omega),← List.getD_eq_getElem?_getD]
   ·rw [if_neg hb,if_neg hb,if_neg (fun h:a=b=>e h.symm),if_neg (by decide)]
theorem zeb {d:Disk} {p:Plan} {a off:Int} {s:Txt} (h:(zbT d p a off s).2=0):(plook d p a).2=0∧(overS (plook d p a).1 off s).2=0∧zbT d p a off s=pset p a (overS (plook d p a).1 off s).1:=by
 unfold zbT at h ⊢
 split at h
 ·rename_i h1;exact absurd h h1
 rename_i h1
 rw [if_neg h1]
 split at h
 ·rename_i h2;exact absurd h h2
 rename_i h2
 rw [if_neg h2]
 exact ⟨by simpa using h1,by simpa using h2,rfl⟩
theorem zcx {d:Disk} {p:Plan} {a off:Int} {s:Txt} (h:(zbT d p a off s).2=0) (hl:p.targets.length=p.texts.length) (b:Int):
  plook d (zbT d p a off s).1 b=if b=a then (lay (plook d p a).1 off.toNat s,0) else plook d p b:=by
 obtain ⟨h1,h2,h3⟩:=zeb h
 rw [h3] at h ⊢
 rw [zaL h hl,(zoW h2).2.2]
theorem zm0 (c:UInt8) (l:Txt):takeN (c::l)=c.toNat*256 ^ l.length+takeN l:=by
 have hg:∀ (l:Txt) (n:Nat),l.foldl (fun n c=>n*256+c.toNat) n=n*256 ^ l.length+l.foldl (fun n c=>n*256+c.toNat) 0:=by
  intro l
  induction l with
  |nil=>intro n;simp
  |cons c l ih=>
   intro n
   simp only [List.foldl_cons,List.length_cons]
   rw [ih (n*256+c.toNat),ih (0*256+c.toNat),Nat.zero_mul,Nat.zero_add,Nat.add_mul,Nat.mul_assoc,Nat.pow_succ,Nat.mul_comm 256,Nat.add_assoc]
 unfold takeN
 rw [List.foldl_cons,hg]
 simp
theorem zgT (n:Nat):∀k,takeN (putN n k)=n % 256 ^ k
 |0=>by simp [putN,takeN,Nat.mod_one]
 |k+1=>by
  rw [zgr,zm0,zZ,zgT n k]
  have h1:(UInt8.ofNat (n / 256 ^ k)).toNat=n / 256 ^ k % 256:=by simp
  rw [h1,Nat.pow_succ,Nat.mod_mul,Nat.mul_comm,Nat.add_comm]
theorem zoY {d:Disk} {p:Plan} {k by_:Int} (hd:DP d p) (h:(radd d p k by_).2=0) (k':Int):
  rget d (radd d p k by_).1 k'=if k'=k then ((rget d p k).1+by_,0) else rget d p k':=by
 unfold radd at h ⊢
 split at h
 ·rename_i h1;exact absurd h h1
 rename_i h1
 have h1':(rget d p k).2=0:=by simpa using h1
 rw [if_neg h1]
 split at h
 ·exact absurd h (by simp)
 rename_i h2
 rw [if_neg h2]
 obtain ⟨hk0,hk1⟩:=zfa h1'
 have hr:=zdo d p k
 have hv:=zcx h hd.plen
 obtain ⟨g1,g2,_⟩:=zeb h
 have h64:=zb8 hd g1
 have hpl:(putN ((rget d p k).1+by_).toNat 2).length=2:=zZ _ _
 obtain ⟨c,hc⟩:∃c,c=(rget d p k).1+by_:=⟨_,rfl⟩
 rw [← hc] at hv hpl ⊢
 have hc0:0≤c∧c≤65535:=by omega
 by_cases e:k'=k
 ·subst e
  rw [if_pos rfl]
  rw [rget,if_neg (by rw [hostOk_iff.2 ⟨hk0,hk1⟩];exact Bool.false_ne_true),hv,if_pos rfl,if_neg (by simp)]
  have hoff:(2*(k' % 32)).toNat+2≤64:=by omega
  have hls:=zlX (b:=(plook d p (87+k' / 32)).1) (s:=putN c.toNat 2) (k:=(2*(k' % 32)).toNat) (by omega)
  rw [hpl] at hls
  simp only
  rw [hls,zgT]
  congr 1
  omega
 ·rw [if_neg e]
  by_cases hk':zF k'=true
  ·obtain ⟨hh0,hh1⟩:=hostOk_iff.1 hk'
   have hn:¬(!zF k')=true:=by rw [hk'];decide
   unfold rget
   rw [if_neg hn,if_neg hn,hv]
   by_cases es:87+k' / 32=87+k / 32
   ·rw [if_pos es,es,if_neg (by simp),if_neg (by omega)]
    simp only
    rw [zjI (by omega) (by omega)]
   ·rw [if_neg es]
  ·unfold rget
   rw [if_pos (by simpa using hk'),if_pos (by simpa using hk')]
theorem zch {d:Disk} {p:Plan} {k by_:Int} (hd:DP d p) (h:(radd d p k by_).2=0) {b:Int} (hb:b<87∨95≤b):plook d (radd d p k by_).1 b=plook d p b:=by
 unfold radd at h ⊢
 split at h
 ·rename_i h1;exact absurd h h1
 rename_i h1
 have h1':(rget d p k).2=0:=by simpa using h1
 rw [if_neg h1]
 split at h
 ·exact absurd h (by simp)
 rename_i h2
 rw [if_neg h2]
 obtain ⟨hk0,hk1⟩:=zfa h1'
 rw [zcx h hd.plen,if_neg (by omega)]
open Go Go.Proofs
def cnts (n:Nat) (a:List Int):List Int:=(List.range n).map fun (k:Nat)=>((a.count (k:Int):Nat):Int)
theorem zfZ (n:Nat) (a:List Int):(cnts n a).length=n:=by simp [cnts]
theorem zec {n k:Nat} (a:List Int) (h:k<n):(cnts n a)[k]?=some ((a.count (k:Int):Nat):Int):=by simp [cnts,h]
theorem zoZ {n:Nat} {a b:List Int} (h:a.Perm b):cnts n a=cnts n b:=by
 unfold cnts
 congr 1
 funext k
 rw [h.count_eq]
theorem zqL {n k:Nat} (a:List Int) (h:k<n):(cnts n a).set k (((a.count (k:Int):Nat):Int)+1)=cnts n (a++ [(k:Int)]):=by
 apply List.ext_getElem?
 intro i
 rcases Nat.lt_or_ge i n with hi|hi
 ·rw [zec _ hi,List.count_append]
  by_cases e:k=i
  ·subst e
   rw [List.getElem?_set_self (by rw [zfZ];exact h)]
   simp
  ·rw [List.getElem?_set_ne e,zec _ hi]
   have hz:List.count (i:Int) [(k:Int)]=0:=List.count_eq_zero.2 (by simp;omega)
   rw [hz,Nat.add_zero]
 ·rw [List.getElem?_eq_none (by simp [zfZ];omega),List.getElem?_eq_none (by rw [zfZ];omega)]
theorem zhU {d:Disk} {p:Plan} {t:Int} :∀ (m:Nat) (k:Int) (l:List Int),(∀x∈l,0≤x∧x<256)→∀x∈(zbV d p t m k l).1,0≤x∧x<256
 |0,k,l,h=>h
 | m +1,k,l,h=>by
  rw [zbV]
  by_cases he:(eget d p t k).2=0
  ·rw [if_neg (by omega)]
   refine zhU m (k+1) _ ?_
   split
   ·rename_i hk
    obtain ⟨hx1,_⟩:=zfb he
    have:=zbb hx1
    intro x hx
    rcases List.mem_append.1 hx with hx|hx
    ·exact h x hx
    ·rw [List.mem_singleton] at hx
     subst hx
     exact ⟨this.2.1,this.2.2⟩
   ·exact h
  ·rw [if_pos he]
   intro x hx
   cases hx
theorem zfj {d:Disk} {p:Plan} {t:Int} :∀ (m:Nat) (k:Int) (l:List Int),(∀x∈l,0≤x∧x<256)→∀x∈(zc1 d p t m k l).1,0≤x∧x<256
 |0,k,l,h=>h
 | m +1,k,l,h=>by
  rw [zc1]
  by_cases he:(eget d p t k).2=0
  ·rw [if_neg (by omega)]
   obtain ⟨hx1,_⟩:=zfb he
   have hr:=zbb hx1
   have h2:∀x∈l++ [(eget d p t k).1.loc],0≤x∧x<256:=by
    intro x hx
    rcases List.mem_append.1 hx with hx|hx
    ·exact h x hx
    ·rw [List.mem_singleton] at hx
     subst hx
     exact ⟨hr.2.1,hr.2.2⟩
   split
   ·intro x hx;cases hx
   split
   ·exact zfj m _ l h
   split
   ·intro x hx;cases hx
   ·exact zfj m _ _ (zhU _ _ _ h2)
  ·rw [if_pos he]
   intro x hx
   cases hx
theorem zjK {d:Disk} {p:Plan} {t:Int} :∀x∈(reach d p t).1,0≤x∧x<256:=zfj _ _ _ (fun x hx=>by cases hx)
theorem zhV {d:Disk} {p:Plan} {t:Int} :∀ (m:Nat) (k:Int) (l:List Int),(zbV d p t m k l).1.length≤l.length+m
 |0,k,l=>Nat.le_refl _
 | m+1,k,l=>by
  rw [zbV]
  split
  ·simp
  ·refine Nat.le_trans (zhV m (k+1) _) ?_
   split
   ·simp only [List.length_append,List.length_singleton];omega
   ·omega
theorem zfk {d:Disk} {p:Plan} {t:Int} :∀ (m:Nat) (k:Int) (l:List Int),(zc1 d p t m k l).1.length≤l.length+17*m
 |0,k,l=>Nat.le_refl _
 | m+1,k,l=>by
  rw [zc1]
  split
  ·simp
  split
  ·simp
  split
  ·refine Nat.le_trans (zfk m (k+1) _) ?_;omega
  split
  ·simp
  ·refine Nat.le_trans (zfk m (k+1) _) ?_
   have:=zhV (d:=d) (p:=p) (t:=(eget d p t k).1.loc) 16 0 (l++ [(eget d p t k).1.loc])
   simp only [List.length_append,List.length_singleton] at this
   omega
theorem zo0 {d:Disk} {p:Plan} {t:Int} :(reach d p t).1.length≤68:=by
 exact zfk (d:=d) (p:=p) (t:=t) 4 0 []
open Go Go.Proofs
def zlY (d:Disk) (by_:Int):List Int→Plan→Plan×Int
 | [],q=>(q,0)
 |k::r,q=>if (radd d q k by_).2≠0 then (q,(radd d q k by_).2) else zlY d by_ r (radd d q k by_).1
def share (d:Disk) (p:Plan) (l1 by_:Int):Plan×Int:=
 if (reach d p l1).2≠0 then (p,(reach d p l1).2) else if (zlY d by_ (reach d p l1).1 p).2≠0 then (p,(zlY d by_ (reach d p l1).1 p).2) else zlY d by_ (reach d p l1).1 p
open Go Go.Proofs
open Go Go.Proofs
open Go Go.Proofs
open Go Go.Proofs
theorem zlZ (d:Disk) (b:Int):plook d p0 b=dread d b:=by
 have:¬0≤pfind p0.targets b:=by
  show ¬(0:Int)≤ -1
  decide
 unfold plook
 rw [if_neg this]
theorem zl0 {d:Disk} {p:Plan} :∀ (m k:Nat) (l:List Int),(rallK d p m k l).2=0→(∀i,k≤i→i<k+m→(rget d p (i:Nat)).2=0)∧(rallK d p m k l).1=l++(List.range m).map (fun i=>(rget d p ((k+i:Nat):Int)).1)
 |0,k,l,h=>⟨fun i h1 h2=>by omega,by simp [rallK]⟩
 | m +1,k,l,h=>by
  rw [rallK] at h ⊢
  by_cases he:(rget d p k).2=0
  ·rw [if_neg (by omega)] at h ⊢
   have hk:((k:Int)+1)=((k+1:Nat):Int):=by omega
   rw [hk] at h ⊢
   obtain ⟨h1,h2⟩:=zl0 m (k+1) _ h
   refine ⟨fun i hi1 hi2=>?_,?_⟩
   ·by_cases e:i=k
    ·subst e;exact he
    ·exact h1 i (by omega) (by omega)
   ·have hm:(List.range m).map (fun i=>(rget d p ((k+1+i:Nat):Int)).1)=(List.range m).map ((fun i=>(rget d p ((k+i:Nat):Int)).1) ∘ Nat.succ):=by
     refine List.map_congr_left (fun i _=>?_)
     simp only [Function.comp]
     rw [show k+1+i=k+Nat.succ i by omega]
    rw [h2,List.range_succ_eq_map,List.map_cons,List.map_map,List.append_assoc,List.singleton_append,hm,Nat.add_zero]
  ·rw [if_pos he] at h
   exact absurd h he
theorem zse {d:Disk} {p:Plan} {n:Nat} (h:(rall d p n).2=0):n≤256∧(∀i,i<n→(rget d p (i:Nat)).2=0)∧(rall d p n).1=(List.range n).map (fun (i:Nat)=>(rget d p (i:Int)).1):=by
 unfold rall at h ⊢
 split at h
 ·exact absurd h (by simp)
 rename_i h1
 rw [if_neg h1]
 rw [Int.toNat_natCast] at h ⊢
 obtain ⟨h2,h3⟩:=zl0 n 0 [] h
 refine ⟨by omega,fun i hi=>h2 i (Nat.zero_le _) (by omega),?_⟩
 rw [show (0:Int)=((0:Nat):Int) from rfl,h3]
 simp
theorem zm1 {x:Img} {p:Plan} (h:(cdone x p).2=0):(jcommit x.disk x.jour p).2.2=0∧(cdone x p).1= { x with disk:=(jcommit x.disk x.jour p).1,jour:=(jcommit x.disk x.jour p).2.1 } :=by
 unfold cdone at h ⊢
 split at h
 ·rename_i h1;exact absurd h h1
 ·rename_i h1
  rw [if_neg h1]
  exact ⟨by simpa using h1,rfl⟩
open Go Go.Proofs
theorem zfl {d:Disk} {p:Plan} {g:Geom} (h:(rtake d p g).2.2=0):(rfind d p g).2=0∧(radd d p (rfind d p g).1 1).2=0∧rtake d p g=((radd d p (rfind d p g).1 1).1,(rfind d p g).1,0):=by
 unfold rtake at h ⊢
 split at h
 ·rename_i h1;exact absurd h h1
 rename_i h1
 rw [if_neg h1]
 split at h
 ·rename_i h2;exact absurd h h2
 rename_i h2
 rw [if_neg h2]
 exact ⟨by simpa using h1,by simpa using h2,rfl⟩
theorem zgU {d:Disk} {p:Plan} {g:Geom} (hd:DP d p) (h:(rtake d p g).2.2=0) {b:Int} (hb:b<87∨95≤b):plook d (rtake d p g).1 b=plook d p b:=by
 obtain ⟨_,h2,h3⟩:=zfl h
 rw [h3]
 exact zch hd h2 hb
theorem zed {d:Disk} {p:Plan} {a t:Int} (h:(ecopy d p a t).2=0):zF a=true∧zF t=true∧(plook d p (96+2*a)).2=0∧(pset p (96+2*t) (plook d p (96+2*a)).1).2=0∧
  (plook d (pset p (96+2*t) (plook d p (96+2*a)).1).1 (97+2*a)).2=0∧
  (pset (pset p (96+2*t) (plook d p (96+2*a)).1).1 (97+2*t) (plook d (pset p (96+2*t) (plook d p (96+2*a)).1).1 (97+2*a)).1).2=0∧
  ecopy d p a t=((pset (pset p (96+2*t) (plook d p (96+2*a)).1).1 (97+2*t) (plook d (pset p (96+2*t) (plook d p (96+2*a)).1).1 (97+2*a)).1).1,0):=by
 unfold ecopy at h ⊢
 split at h
 ·exact absurd h (by simp)
 rename_i h1
 rw [if_neg h1]
 simp only [not_or,Bool.not_eq_false] at h1
 simp only [za5,Int.add_zero,Int.zero_add] at h ⊢
 rw [show 96+2*a+1=97+2*a by omega,show 96+2*t+1=97+2*t by omega] at h ⊢
 split at h
 ·rename_i h2;exact absurd h h2
 rename_i h2
 rw [if_neg h2]
 split at h
 ·rename_i h3;exact absurd h h3
 rename_i h3
 rw [if_neg h3]
 split at h
 ·rename_i h4;exact absurd h h4
 rename_i h4
 rw [if_neg h4]
 split at h
 ·rename_i h5;exact absurd h h5
 rename_i h5
 rw [if_neg h5]
 exact ⟨h1.1,h1.2,by simpa using h2,by simpa using h3,by simpa using h4,by simpa using h5,rfl⟩
theorem zkX {d:Disk} {p:Plan} {a t:Int} (hd:DP d p) (h:(ecopy d p a t).2=0) (hne:a≠t) (b:Int):
  plook d (ecopy d p a t).1 b=if b=96+2*t then plook d p (96+2*a) else if b=97+2*t then plook d p (97+2*a) else plook d p b:=by
 obtain ⟨h1,h2,h3,h4,h5,h6,h7⟩:=zed h
 have hd2:DP d (pset p (96+2*t) (plook d p (96+2*a)).1).1:=⟨hd.d,zcH hd.p⟩
 have hv:∀b,plook d (pset p (96+2*t) (plook d p (96+2*a)).1).1 b=if b=96+2*t then plook d p (96+2*a) else plook d p b:=by
  intro b
  rw [zaL h4 hd.plen]
  split
  ·exact Prod.ext rfl h3.symm
  ·rfl
 rw [h7]
 simp only
 have e5:plook d (pset p (96+2*t) (plook d p (96+2*a)).1).1 (97+2*a)=plook d p (97+2*a):=by rw [hv,if_neg (by omega)]
 rw [e5] at h5
 rw [zaL h6 hd2.plen,e5,hv b]
 by_cases e:b=97+2*t
 ·have hne:¬b=96+2*t:=by omega
  rw [if_pos e,if_neg hne,if_pos e]
  exact Prod.ext rfl h5.symm
 ·rw [if_neg e,if_neg e]
theorem zo1 {α:Type} {l:List α} {i:Nat} {u:α} (h:l[i]?=some u) (v:α):l=l.take i++u::l.drop (i+1)∧l.set i v=l.take i++v::l.drop (i+1):=by
 obtain ⟨hi,hu⟩:=List.getElem?_eq_some_iff.1 h
 constructor
 ·rw [← hu,List.getElem_cons_drop,List.take_append_drop]
 ·rw [List.set_eq_take_append_cons_drop,if_pos hi]
theorem zm2 {x:Img} {q:Plan} (hx:ImgF x) (hq:pfit q=true) (h:(cdone x q).2=0) {b:Int} (hb:b<6∨87≤b):plook (cdone x q).1.disk p0 b=plook x.disk q b:=by
 obtain ⟨h1,h2⟩:=zm1 h
 rw [h2,zlZ]
 exact zjH hx.disk hq h1 hb
end Go.Aw
