/-
  Parts of the proof: ViewA, ViewB, AuditA, SnapA, ShareA, SnapB (short names; the readable texts lie in the repo, under wip).
-/
import Derived.Test.YtbmlikkofegdeaaGreatDoorPiece32
import Derived.Test.YtbmlikkofegdeaaGreatDoorPiece17
import Derived.Test.YtbmlikkofegdeaaGreatDoorPiece27
import Derived.Test.YtbmlikkofegdeaaGreatDoorPiece28
set_option maxRecDepth 100000
set_option maxHeartbeats 2000000
set_option linter.unusedSimpArgs false
set_option linter.unusedVariables false
namespace Go.Aw
open Go Go.Proofs
theorem zhr {d d':Disk} (h:d'.data.length=d.data.length) (a:Int):there d' a=there d a:=by unfold there dsize;rw [h]
theorem zmR (d:Disk):(burnt d).off=d.off:=by unfold burnt;split<;>rfl
theorem zgS (d:Disk):(burnt d).bad=d.bad:=by unfold burnt;split<;>rfl
theorem zkt (d:Disk) (a:Int):sees (burnt d) a=sees d a:=by unfold sees;rw [zdV,zdG]
theorem zov {d:Disk} {a:Int} {s:Txt} (h:(zM d a s).2=0):
  d.off=false/\there d a=true/\d.bad.contains a=false/\s.length=64/\(zM d a s).1=burnt { d with cache:=d.cache++ [(a,s)] } :=by
 unfold zM at h ⊢;split at h
 ·exact absurd h (by simp)
 split at h
 ·exact absurd h (by simp)
 split at h
 ·exact absurd h (by simp)
 split at h
 ·exact absurd h (by simp)
 split at h
 ·exact absurd h (by simp)
 split at h
 ·exact absurd h (by simp)
 rename_i h1 h2 h3 h4 h5 h6;refine ⟨by simpa using h1,by simpa using h2,by simpa using h5,by omega,?_⟩;rw [if_neg h1,if_neg h2,if_neg h3,if_neg h4,if_neg h5,if_neg h6]
theorem zgr {d:Disk} {a:Int} {s:Txt} (h:(zM d a s).2=0) (b:Int):
  dread (zM d a s).1 b=if b=a then (s,0) else dread d b:=by
 obtain ⟨h1,h2,h3,h4,h5⟩:=zov h;rw [h5];unfold dread;rw [zmR,zgS,zkt,zhr (d:=d) (by rw [zdG])];simp only [h1,Bool.false_eq_true,if_false]
 have hs:sees { d with cache:=d.cache++ [(a,s)] } b=if b=a then s else sees d b:=by
  unfold sees;simp only [List.reverse_append,List.reverse_singleton,List.singleton_append,List.find?_cons,isPut];by_cases e:b=a
  ·subst e;simp
  ·have:(a==b)=false:=by simpa using λh=>e h.symm
   simp only [this,if_neg e]
 have hs2:sees { data:=d.data,cache:=d.cache++ [(a,s)],fuse:=d.fuse,off:=false,bad:=d.bad } b=if b=a then s else sees d b:=by rw [<-hs,<-h1]
 rw [hs2];by_cases e:b=a
 ·subst e;simp only [h2,h3,Bool.not_true,Bool.false_eq_true,if_false,if_true]
 ·simp only [if_neg e]
theorem zow {d:Disk} (h:(dflush d).2=0):d.off=false/\(dflush d).1=burnt { d with data:=zcA d.data d.cache,cache:= [] } :=by
 unfold dflush at h ⊢;split at h
 ·exact absurd h (by simp)
 split at h
 ·exact absurd h (by simp)
 rename_i h1 h2;rw [if_neg h1,if_neg h2];exact ⟨by simpa using h1,rfl⟩
theorem zxt {b:Txt} {k:Nat} {s:Txt} (hs:s.length=64) (hk:k*64+64<=b.length) (i:Nat):
  ((lay b (k*64) s).drop (i*64)).take 64=if i=k then s else (b.drop (i*64)).take 64:=by
 unfold lay;split
 ·rename_i e;subst e;have hl:(b.take (i*64)).length=i*64:=by rw [List.length_take];omega
  rw [List.append_assoc,List.drop_append_of_le_length (by omega),List.drop_of_length_le (by omega),List.nil_append,List.take_append_of_le_length (by omega),List.take_of_length_le (by omega)]
 ·rename_i e;rcases Nat.lt_or_ge i k with hlt|hge
  ·have hl:(b.take (k*64)).length=k*64:=by rw [List.length_take];omega
   have hm:i*64+64<=k*64:=by omega
   rw [List.append_assoc,List.drop_append_of_le_length (by omega),List.take_append_of_le_length (by rw [List.length_drop];omega),List.drop_take,List.take_take,Nat.min_eq_left (by omega)]
  ·have hm:k*64+64<=i*64:=by omega
   have hl:(b.take (k*64)++s).length=k*64+64:=by rw [List.length_append,List.length_take];omega
   rw [List.drop_append,List.drop_of_length_le (by omega),List.nil_append,hl,List.drop_drop,hs];congr 2;omega
theorem zku {d:Disk} :∀ (l:List PutR) (b:Txt),b.length=d.data.length->l.all (putOk d)=true->∀ (a:Int),0<=a->
  ((zcA b l).drop (a*64).toNat).take 64=match l.reverse.find? (isPut a) with|some q=>q.2|none=>(b.drop (a*64).toNat).take 64
 | [],b,hb,hl,a,ha=>rfl
 | q::l,b,hb,hl,a,ha=>by
  simp only [List.all_cons,Bool.and_eq_true] at hl;obtain ⟨h1,h2⟩:=hl;unfold putOk at h1;rw [Bool.and_eq_true,there_iff,beq_iff_eq] at h1;obtain ⟨⟨h3,h4⟩,h5⟩:=h1;obtain ⟨m,hm⟩:∃m:Nat,q.1=m:=⟨q.1.toNat,by omega⟩
  obtain ⟨i,rfl⟩:∃i:Nat,a=i:=⟨a.toNat,by omega⟩
  have hq:(q.1*64).toNat=m*64:=by omega
  have hk:m*64+64<=b.length:=by omega
  have hlen:(lay b (m*64) q.2).length=b.length:=zlb (by omega);have ih:=zku l (lay b (m*64) q.2) (by omega) h2 i (by omega);show (List.drop _ (zcA (lay b (q.1*64).toNat q.2) l)).take 64=_;rw [hq,ih,List.reverse_cons,List.find?_append];cases hf:l.reverse.find? (isPut (i:Int)) with
  |some x=>simp
  | none=>
   simp only [Option.none_or,List.find?_singleton,isPut];have hs:=zxt (b:=b) (k:=m) (s:=q.2) (by omega) hk i;have hi:((i:Int)*64).toNat=i*64:=by omega
   rw [hi,hs];by_cases e:i=m
   ·subst e;simp [hm]
   ·have:(q.1==(i:Int))=false:=by rw [hm];simp;omega
    simp [this,e]
theorem zi9 {d:Disk} (hd:DiskF d) (h:(dflush d).2=0) (b:Int):dread (dflush d).1 b=dread d b:=by
 obtain ⟨h1,h2⟩:=zow h;have hl:(zcA d.data d.cache).length=d.data.length:=zhf hd.puts;rw [h2];unfold dread;rw [zmR,zgS,zkt,zhr (d:=d) (by rw [zdG];exact hl)];by_cases ht:there d b=true
 ·have hs:sees { d with data:=zcA d.data d.cache,cache:= [] } b=sees d b:=by unfold sees;simp only [List.reverse_nil,List.find?_nil];rw [there_iff] at ht;exact zku (d:=d) d.cache d.data rfl hd.puts b ht.1
  rw [hs]
 ·have ht:(!there d b)=true:=by simpa using ht
  simp only [ht,if_true]
def zgT (l:List (Int×Txt)) (b:Int):Option Txt:=(l.reverse.find? (λq=>q.1==b)).map (·.2)
theorem zja (q:Int×Txt) (l:List (Int×Txt)) (b:Int):zgT (q::l) b=(zgT l b).or (if q.1=b then some q.2 else none):=by
 unfold zgT;rw [List.reverse_cons,List.find?_append];cases hf:l.reverse.find? (λq=>q.1==b) with
 |some x=>simp
 | none=>
  by_cases e:q.1=b
  ·simp [e]
  ·have:(q.1==b)=false:=by simpa using e
   simp [this,e]
theorem zfX:∀ (l:List (Int×Txt)) {d:Disk},(layL d l).2=0->∀b,dread (layL d l).1 b=match zgT l b with|some s=>(s,0)|none=>dread d b
 | [],d,h,b=>rfl
 | q::l,d,h,b=>by
  rw [layL] at h ⊢;by_cases hw:(zM d q.1 q.2).2=0
  ·rw [if_neg (by omega)] at h ⊢;rw [zfX l h b,zja];cases zgT l b with
   |some x=>rfl
   |none=>
    simp only [Option.none_or];rw [zgr hw];by_cases e:q.1=b
    ·rw [if_pos e.symm,if_pos e]
    ·rw [if_neg (λh=>e h.symm),if_neg e]
  ·rw [if_pos hw] at h;exact absurd h hw
theorem zpH:∀ (l:List Txt) (a:Int) (q:Int×Txt),q∈numF a l->a<=q.1/\q.1<a+l.length
 | [],a,q,h=>by cases h
 | s::l,a,q,h=>by
  rw [numF,List.mem_cons] at h;rcases h with rfl|h
  ·simp only [List.length_cons];omega
  ·have:=zpH l (a+1) q h;simp only [List.length_cons];omega
theorem zjb {l:List (Int×Txt)} {b:Int} (h:∀q∈l,q.1≠b):zgT l b=none:=by
 unfold zgT;rw [List.find?_eq_none.2]
 ·rfl
 ·intro q hq;have:=h q (List.mem_reverse.1 hq);simpa using this
theorem zmS:∀ (t:List Int) (s:List Txt) (seen:List Int),pfitL seen t s=true->t.length=s.length->∀x∈t,x ∉ seen
 | [],_,_,_,_,x,h=>by cases h
 |a::r,[],_,_,hl,x,h=>by simp at hl
 |a::r,s::q,seen,hp,hl,x,h=>by
  simp only [pfitL,Bool.and_eq_true,Bool.not_eq_true'] at hp;obtain ⟨⟨⟨_,h2⟩,_⟩,h4⟩:=hp;rcases List.mem_cons.1 h with rfl|h
  ·simpa using h2
  ·exact λhx=>zmS r q (seen++ [a]) h4 (by simpa using hl) x h (by simp [hx])
theorem zkv:∀ (t:List Int) (s:List Txt) (seen:List Int),pfitL seen t s=true→t.length=s.length→∀b,zgT (t.zip s) b=if 0≤pfind t b then some (s.getD (pfind t b).toNat []) else none
 | [],s,seen,hp,hl,b=>by simp [zgT,pfind,idxP]
 |a::r,[],seen,hp,hl,b=>by simp at hl
 | a :: r,x::q,seen,hp,hl,b=>by
  have hp0:=hp
  simp only [pfitL,Bool.and_eq_true,Bool.not_eq_true'] at hp
  obtain ⟨⟨⟨_,h2⟩,_⟩,h4⟩:=hp
  have hl':r.length=q.length:=by simpa using hl
  have ih:=zkv r q (seen++ [a]) h4 hl' b
  have hn:=zmS r q (seen++ [a]) h4 hl'
  rw [List.zip_cons_cons,zja,ih]
  have hidx:∀ (l:List Int) (k:Nat),idxP (fun y=>y==b) l k=if 0≤pfind l b then pfind l b+k else -1:=by
   intro l
   unfold pfind
   have hg:∀ (l:List Int) (k:Nat),idxP (fun y=>y==b) l k=if 0≤idxP (fun y=>y==b) l 0 then idxP (fun y=>y==b) l 0+k else -1:=by
    intro l
    induction l with
    |nil=>intro k;simp [idxP]
    | cons y l ih=>
     intro k
     simp only [idxP]
     by_cases e:(y==b)=true
     ·simp [e]
     ·simp only [e]
      have h1:=ih (k+1)
      have h2:=ih (0+1)
      by_cases h0:0≤idxP (fun y=>y==b) l 0
      ·rw [if_pos h0] at h1 h2
       rw [h1,h2]
       simp only [Bool.false_eq_true,if_false]
       rw [if_pos (by omega)]
       omega
      ·rw [if_neg h0] at h1 h2
       rw [h1,h2]
       simp
   exact hg l
  by_cases e:a=b
  ·subst e
   have hna:¬0≤pfind r a:=by
    intro hge
    rcases zbd r a with hc|⟨k,hk,hkl⟩
    ·omega
    ·have:a∈r:=by
      unfold pfind at hge
      have hex:∀ (l:List Int) (k:Nat),0≤idxP (fun y=>y==a) l k→a∈l:=by
       intro l
       induction l with
       |nil=>intro k h;simp [idxP] at h
       | cons y l ih=>
        intro k h
        simp only [idxP] at h
        by_cases e:(y==a)=true
        ·have:y=a:=by simpa using e
         simp [this]
        ·simp only [e,if_false] at h
         exact List.mem_cons_of_mem _ (ih _ h)
      exact hex r 0 hge
     exact hn a this (by simp)
   rw [if_neg hna]
   have:pfind (a::r) a=0:=by simp [pfind,idxP]
   rw [this]
   simp
  ·have hne:(a==b)=false:=by simpa using e
   have:pfind (a::r) b=if 0≤pfind r b then pfind r b+1 else -1:=by
    show idxP _ _ _=_
    simp only [idxP,hne]
    have:=hidx r (0+1)
    simpa using this
   rw [this]
   by_cases h0:0≤pfind r b
   ·have h2:(pfind r b+1).toNat=(pfind r b).toNat+1:=by omega
    have h3:0≤pfind r b+1:=by omega
    rw [if_pos h0,if_pos h0,if_pos h3,h2]
    simp
   ·rw [if_neg h0,if_neg h0,if_neg e,if_neg (by decide)]
    rfl
theorem zq7 {d:Disk} {p:Plan} (hp:pfit p=true) (h:(play d p).2=0) (b:Int):dread (play d p).1 b=plook d p b:=by
 unfold play at h ⊢;have hp0:=hp;simp only [pfit,Bool.and_eq_true,decide_eq_true_eq] at hp;rw [zfX _ h,zkv _ _ [] hp.2 hp.1.1];unfold plook;split
 ·rename_i s hs;split at hs
  ·rename_i hge;rw [if_pos hge];simp only [Option.some.injEq] at hs;rw [hs]
  ·cases hs
 ·rename_i hs;split at hs
  ·cases hs
  ·rename_i hge;rw [if_neg hge]
theorem zmT {d:Disk} {j:Jour} {p:Plan} (hd:DiskF d) (hp:pfit p=true) (h:(jcommit d j p).2.2=0) {b:Int} (hb:b<6\/87<=b):dread (jcommit d j p).1 b=plook d p b:=by
 have hlen:=zay hp;unfold jcommit at h ⊢;split at h
 ·rename_i h0;rw [if_pos h0];have:p.targets= []:=List.eq_nil_of_length_eq_zero h0;unfold plook pfind;rw [this];rfl
 rename_i h0;rw [if_neg h0];split at h
 ·exact absurd h (by simp)
 rename_i h1;rw [if_neg h1];split at h
 ·rename_i h2;exact absurd h h2
 rename_i h2;have h2:(dflush d).2=0:=by simpa using h2
 rw [if_neg (by omega)];obtain ⟨L,hL⟩:∃L,L=zb4 j.seq p:=⟨_,rfl⟩
 have hLl:=(zfP j.seq hp).1;rw [<-hL] at h hLl ⊢;have hA:=zfO j.pos L.length;obtain ⟨A,hAe⟩:∃A,A=zcE j.pos L.length:=⟨_,rfl⟩
 have hAL:A+L.length<=81:=by rw [hAe];unfold zcE;split<;>omega
 rw [<-hAe] at h hA ⊢;unfold jtail at h ⊢;split at h
 ·rename_i h3;exact absurd h h3
 rename_i h3;have h3:(layL (dflush d).1 (numF (6+A) L)).2=0:=by simpa using h3
 rw [if_neg (by omega)];split at h
 ·rename_i h4;exact absurd h h4
 rename_i h4;have h4:(dflush (layL (dflush d).1 (numF (6+A) L)).1).2=0:=by simpa using h4
 rw [if_neg (by omega)];split at h
 ·rename_i h5;exact absurd h h5
 rename_i h5;have h5:(play (dflush (layL (dflush d).1 (numF (6+A) L)).1).1 p).2=0:=by simpa using h5
 rw [if_neg (by omega)];simp only;rw [zq7 hp h5];have hf1:=hd.flush;have hf2:DiskF (layL (dflush d).1 (numF (6+A) L)).1:=DiskF.layL _ hf1
 have hv:dread (dflush (layL (dflush d).1 (numF (6+A) L)).1).1 b=dread d b:=by
  rw [zi9 hf2 h4,zfX _ h3,zjb]
  ·exact zi9 hd h2 b
  ·intro q hq;have:=zpH L (6+A) q hq;omega
 unfold plook;rw [hv]
open Go Go.Proofs
theorem zlv {b s:Txt} {k:Nat} (h:k+s.length<=b.length):((lay b k s).drop k).take s.length=s:=by
 have hl:(b.take k).length=k:=by rw [List.length_take];omega
 unfold lay;rw [List.append_assoc,List.drop_append_of_le_length (by omega),List.drop_of_length_le (by omega),List.nil_append,List.take_append_of_le_length (by omega),List.take_of_length_le (by omega)]
theorem zjc {b s:Txt} {k m n:Nat} (h:k+s.length<=b.length) (ho:m+n<=k\/k+s.length<=m):((lay b k s).drop m).take n=(b.drop m).take n:=by
 unfold lay;rcases ho with ho|ho
 ·have hl:(b.take k).length=k:=by rw [List.length_take];omega
  rw [List.append_assoc,List.drop_append_of_le_length (by omega),List.take_append_of_le_length (by rw [List.length_drop];omega),List.drop_take,List.take_take,Nat.min_eq_left (by omega)]
 ·have hl:(b.take k++s).length=k+s.length:=by rw [List.length_append,List.length_take];omega
  rw [List.drop_append,List.drop_of_length_le (by omega),List.nil_append,hl,List.drop_drop];congr 2;omega
theorem zto {s t:Txt} {a:Int} (h:(overS s a t).2=0):0<=a/\a.toNat+t.length<=s.length/\(overS s a t).1=lay s a.toNat t:=by
 unfold overS at h ⊢;split at h
 ·exact absurd h (by simp)
 rename_i h1;rw [if_neg h1];refine ⟨by omega,by omega,?_⟩;unfold lay;rw [show (a+(t.length:Int)).toNat=a.toNat+t.length by omega]
theorem zmU {l:List Int} {a:Int} {k:Nat} (h:pfind l a=k):l[k]?=some a:=by
 have hg:∀ (l:List Int) (n k:Nat),idxP (λx=>x==a) l n=((n+k:Nat):Int)->l[k]?=some a:=by
  intro l;induction l with
  |nil=>intro n k h;simp [idxP] at h;omega
  | cons y l ih=>
   intro n k h;simp only [idxP] at h;by_cases e:(y==a)=true
   ·simp only [e,if_true] at h;have:k=0:=by omega
    subst this;simpa using e
   ·simp only [e,if_false] at h;cases k with
    |zero=>
     simp only [Bool.false_eq_true,if_false] at h;rcases zeB (λx=>x==a) l (n+1) with hb|hb
     ·rw [hb] at h;omega
     ·omega
    |succ k=>
     simp only [Bool.false_eq_true,if_false] at h;simpa using ih (n+1) k (by rw [h];congr 1;omega)
 exact hg l 0 k (by rw [Nat.zero_add];exact h)
theorem ztp {l:List Int} {a b:Int} :pfind (l++ [a]) b=if 0<=pfind l b then pfind l b else if a=b then (l.length:Int) else -1:=by
 have hg:∀ (l:List Int) (n:Nat),idxP (λx=>x==b) (l++ [a]) n=if 0<=idxP (λx=>x==b) l n then idxP (λx=>x==b) l n else if a=b then ((n+l.length:Nat):Int) else -1:=by
  intro l;induction l with
  | nil=>
   intro n;by_cases e:a=b
   ·simp [idxP,e]
   ·have:(a==b)=false:=by simpa using e
    simp [idxP,e,this]
  | cons y l ih=>
   intro n;simp only [List.cons_append,idxP];by_cases e:(y==b)=true
   ·simp only [e,if_true];rw [if_pos (by omega)]
   ·simp only [e,if_false];rw [ih (n+1)];simp only [List.length_cons];rw [show n+1+l.length=n+(l.length+1) by omega];rfl
 have:=hg l 0;rw [Nat.zero_add] at this;exact this
theorem za3 {d:Disk} {p:Plan} {a:Int} {s:Txt} (h:(pset p a s).2=0) (hl:p.targets.length=p.texts.length) (b:Int):
  plook d (pset p a s).1 b=if b=a then (s,0) else plook d p b:=by
 unfold pset at h ⊢;split at h
 ·exact absurd h (by simp)
 rename_i h1;rw [if_neg h1];split at h
 ·exact absurd h (by simp)
 rename_i h2;rw [if_neg h2];split at h
 ·rename_i h3;rw [if_pos h3];unfold plook;simp only;rcases zbd p.targets a with hk|⟨k,hk,hkl⟩
  ·omega
  rw [hk,Int.toNat_natCast];by_cases e:b=a
  ·subst e;rw [if_pos rfl,hk,if_pos (by omega),Int.toNat_natCast];simp [List.getD_eq_getElem?_getD,show k<p.texts.length by omega]
  ·rw [if_neg e];rcases zbd p.targets b with hb|⟨m,hm,hml⟩
   ·rw [if_neg (by omega),if_neg (by omega)]
   ·rw [if_pos (by omega),if_pos (by omega),hm,Int.toNat_natCast]
    have hne:k≠m:=by rintro rfl;have e1:=zmU hk;have e2:=zmU hm;rw [e1] at e2;exact e (Option.some.inj e2).symm
    simp [List.getD_eq_getElem?_getD,List.getElem?_set_ne hne]
 ·rename_i h3;rw [if_neg h3];split at h
  ·exact absurd h (by simp)
  rename_i h4;rw [if_neg h4];unfold plook;simp only;rw [ztp];by_cases e:b=a
  ·subst e;rw [if_pos rfl,if_neg h3,if_pos rfl,if_pos (by omega),Int.toNat_natCast,hl];simp
  ·rw [if_neg e];by_cases hb:0<=pfind p.targets b
   ·rw [if_pos hb,if_pos hb,if_pos hb];rcases zbd p.targets b with hc|⟨m,hm,hml⟩
    ·omega
    ·rw [hm,Int.toNat_natCast,List.getD_eq_getElem?_getD,List.getElem?_append_left (by omega),<-List.getD_eq_getElem?_getD]
   ·rw [if_neg hb,if_neg hb,if_neg (λh:a=b=>e h.symm),if_neg (by decide)]
theorem zfY {d:Disk} {p:Plan} {a off:Int} {s:Txt} (h:(zcq d p a off s).2=0):(plook d p a).2=0/\(overS (plook d p a).1 off s).2=0/\zcq d p a off s=pset p a (overS (plook d p a).1 off s).1:=by
 unfold zcq at h ⊢;split at h
 ·rename_i h1;exact absurd h h1
 rename_i h1;rw [if_neg h1];split at h
 ·rename_i h2;exact absurd h h2
 rename_i h2;rw [if_neg h2];exact ⟨by simpa using h1,by simpa using h2,rfl⟩
theorem zcn {d:Disk} {p:Plan} {a off:Int} {s:Txt} (h:(zcq d p a off s).2=0) (hl:p.targets.length=p.texts.length) (b:Int):
  plook d (zcq d p a off s).1 b=if b=a then (lay (plook d p a).1 off.toNat s,0) else plook d p b:=by obtain ⟨h1,h2,h3⟩:=zfY h;rw [h3] at h ⊢;rw [za3 h hl,(zto h2).2.2]
theorem zq8 (c:UInt8) (l:Txt):takeN (c::l)=c.toNat*256 ^ l.length+takeN l:=by
 have hg:∀ (l:Txt) (n:Nat),l.foldl (λn c=>n*256+c.toNat) n=n*256 ^ l.length+l.foldl (λn c=>n*256+c.toNat) 0:=by
  intro l;induction l with
  |nil=>intro n;simp
  |cons c l ih=>
   intro n;simp only [List.foldl_cons,List.length_cons];rw [ih (n*256+c.toNat),ih (0*256+c.toNat),Nat.zero_mul,Nat.zero_add,Nat.add_mul,Nat.mul_assoc,Nat.pow_succ,Nat.mul_comm 256,Nat.add_assoc]
 unfold takeN;rw [List.foldl_cons,hg];simp
theorem zd1 (n:Nat):∀k,takeN (putN n k)=n % 256 ^ k
 |0=>by simp [putN,takeN,Nat.mod_one]
 |k+1=>by
  rw [ziH,zq8,zK,zd1 n k];have h1:(UInt8.ofNat (n / 256 ^ k)).toNat=n / 256 ^ k % 256:=by simp
  rw [h1,Nat.pow_succ,Nat.mod_mul,Nat.mul_comm,Nat.add_comm]
theorem ztq {d:Disk} {p:Plan} {k by_:Int} (hd:DP d p) (h:(radd d p k by_).2=0) (k':Int):
  rget d (radd d p k by_).1 k'=if k'=k then ((rget d p k).1+by_,0) else rget d p k':=by
 unfold radd at h ⊢;split at h
 ·rename_i h1;exact absurd h h1
 rename_i h1;have h1':(rget d p k).2=0:=by simpa using h1
 rw [if_neg h1];split at h
 ·exact absurd h (by simp)
 rename_i h2;rw [if_neg h2];obtain ⟨hk0,hk1⟩:=ziV h1';have hr:=zed d p k;have hv:=zcn h hd.plen;obtain ⟨g1,g2,_⟩:=zfY h;have h64:=zch hd g1;have hpl:(putN ((rget d p k).1+by_).toNat 2).length=2:=zK _ _;obtain ⟨c,hc⟩:∃c,c=(rget d p k).1+by_:=⟨_,rfl⟩
 rw [<-hc] at hv hpl ⊢;have hc0:0<=c/\c<=65535:=by omega
 by_cases e:k'=k
 ·subst e;rw [if_pos rfl];rw [rget,if_neg (by rw [hostOk_iff.2 ⟨hk0,hk1⟩];exact Bool.false_ne_true),hv,if_pos rfl,if_neg (by simp)];have hoff:(2*(k' % 32)).toNat+2<=64:=by omega
  have hls:=zlv (b:=(plook d p (87+k' / 32)).1) (s:=putN c.toNat 2) (k:=(2*(k' % 32)).toNat) (by omega);rw [hpl] at hls;simp only;rw [hls,zd1];congr 1;omega
 ·rw [if_neg e];by_cases hk':zG k'=true
  ·obtain ⟨hh0,hh1⟩:=hostOk_iff.1 hk';have hn:¬(!zG k')=true:=by rw [hk'];decide
   unfold rget;rw [if_neg hn,if_neg hn,hv];by_cases es:87+k' / 32=87+k / 32
   ·rw [if_pos es,es,if_neg (by simp),if_neg (by omega)];simp only;rw [zjc (by omega) (by omega)]
   ·rw [if_neg es]
  ·unfold rget;rw [if_pos (by simpa using hk'),if_pos (by simpa using hk')]
theorem zbz {d:Disk} {p:Plan} {k by_:Int} (hd:DP d p) (h:(radd d p k by_).2=0) {b:Int} (hb:b<87\/95<=b):plook d (radd d p k by_).1 b=plook d p b:=by
 unfold radd at h ⊢;split at h
 ·rename_i h1;exact absurd h h1
 rename_i h1;have h1':(rget d p k).2=0:=by simpa using h1
 rw [if_neg h1];split at h
 ·exact absurd h (by simp)
 rename_i h2;rw [if_neg h2];obtain ⟨hk0,hk1⟩:=ziV h1';rw [zcn h hd.plen,if_neg (by omega)]
open Go Go.Proofs
structure Fnd where
 loc:Int
 want:Int
 have_:Int
 deriving DecidableEq
def fndA (s:Fnd):AV:= .agg [.d (.int .i64 s.loc),.d (.int .i64 s.want),.d (.int .i64 s.have_)]
attribute [go_sem] fndA
theorem zxu (s:Fnd):Fnd.mk s.loc s.want s.have_=s:=rfl
noncomputable def zwt:PT Fnd:=aggT (consL (intT .i64) (consL (intT .i64) (consL (intT .i64) nilL))) (λp=>⟨p.1,p.2.1,p.2.2.1⟩) (λx=>(x.loc,x.want,x.have_,())) (λ_=>rfl)
attribute [go_sem] zwt
attribute [go_sem] zxu
def fndD (s:Fnd):List D:= [.int .i64 s.loc,.int .i64 s.want,.int .i64 s.have_]
theorem zej:∀a b,fndD a=fndD b->a=b:=by rintro ⟨a,b,c⟩ ⟨a',b',c'⟩ h;simp only [fndD,List.cons.injEq,D.int.injEq,true_and,and_true] at h;rw [h.1,h.2.1,h.2.2]
def zaF (d:Disk):List Int×Int:=
 if (ze d p0).2≠0 then ([],(ze d p0).2) else if (snaps d p0).2≠0 then ([],(snaps d p0).2)
 else ((ze d p0).1.l1::((snaps d p0).1.filter (λs=>s.id !=0)).map (·.l1),0)
def cntK (d:Disk) (host:Int):List Int->List Int->List Int×Int
 | [],a=>(a,0)
 |t::r,a=>if host<=t then ([],26) else if (reach d p0 t).2≠0 then ([],(reach d p0 t).2)
  else if (reach d p0 t).1.any (λk=>decide (host<=k)) then ([],26) else cntK d host r (a++((reach d p0 t).1++ [t]))
def cnts (n:Nat) (a:List Int):List Int:=(List.range n).map λ(k:Nat)=>((a.count (k:Int):Nat):Int)
def zba (x:Img):List Int×Int:=
 if (zaF x.disk).2≠0 then ([],(zaF x.disk).2) else if (cntK x.disk x.geom.host (zaF x.disk).1 []).2≠0 then ([],(cntK x.disk x.geom.host (zaF x.disk).1 []).2)
 else (cnts x.geom.host.toNat (cntK x.disk x.geom.host (zaF x.disk).1 []).1,0)
def fnds:Nat->List Int->List Int->List Fnd
 |_,[],_=> []
 |_,_::_,[]=> []
 |k,w::ws,h::hs=>if h≠w then ⟨k,w,h⟩::fnds (k+1) ws hs else fnds (k+1) ws hs
def zaG (x:Img):List Fnd×Int:=
 if (zba x).2≠0 then ([],(zba x).2) else if (rall x.disk p0 x.geom.host).2≠0 then ([],(rall x.disk p0 x.geom.host).2)
 else (fnds 0 (zba x).1 (rall x.disk p0 x.geom.host).1,0)
def zgf (x:Img):Bool:= !((zaG x).1.any λf=>decide (f.have_<f.want))&&((zaG x).2==0)
def addsK (d:Disk):List Fnd->Plan->Plan×Int
 | [],p=>(p,0)
 |f::r,p=>if (radd d p f.loc (f.want - f.have_)).2≠0 then (p,(radd d p f.loc (f.want - f.have_)).2) else addsK d r (radd d p f.loc (f.want - f.have_)).1
def amend (x:Img):Img×Int:=
 if x.broken then (x,24) else if (zaG x).2≠0 then (x,(zaG x).2) else if (addsK x.disk (zaG x).1 p0).2≠0 then (x,(addsK x.disk (zaG x).1 p0).2)
 else cdone x (addsK x.disk (zaG x).1 p0).1
theorem zbH (n:Nat) (a:List Int):(cnts n a).length=n:=by simp [cnts]
theorem zfZ {n k:Nat} (a:List Int) (h:k<n):(cnts n a)[k]?=some ((a.count (k:Int):Nat):Int):=by simp [cnts,h]
theorem ztr {n:Nat} {a b:List Int} (h:a.Perm b):cnts n a=cnts n b:=by unfold cnts;congr 1;funext k;rw [h.count_eq]
theorem zpI {n k:Nat} (a:List Int) (h:k<n):(cnts n a).set k (((a.count (k:Int):Nat):Int)+1)=cnts n (a++ [(k:Int)]):=by
 apply List.ext_getElem?;intro i;rcases Nat.lt_or_ge i n with hi|hi
 ·rw [zfZ _ hi,List.count_append];by_cases e:k=i
  ·subst e;rw [List.getElem?_set_self (by rw [zbH];exact h)];simp
  ·rw [List.getElem?_set_ne e,zfZ _ hi];have hz:List.count (i:Int) [(k:Int)]=0:=List.count_eq_zero.2 (by simp;omega);rw [hz,Nat.add_zero]
 ·rw [List.getElem?_eq_none (by simp [zbH];omega),List.getElem?_eq_none (by rw [zbH];omega)]
theorem zkw {d:Disk} {p:Plan} {t:Int} :∀ (m:Nat) (k:Int) (l:List Int),(∀x∈l,0≤x∧x<256)→∀x∈(zb6 d p t m k l).1,0≤x∧x<256
 |0,k,l,h=>h
 | m +1,k,l,h=>by
  rw [zb6]
  by_cases he:(eget d p t k).2=0
  ·rw [if_neg (by omega)]
   refine zkw m (k+1) _ ?_
   split
   ·rename_i hk
    obtain ⟨hx1,_⟩:=zep he
    have:=zbm hx1
    intro x hx
    rcases List.mem_append.1 hx with hx|hx
    ·exact h x hx
    ·rw [List.mem_singleton] at hx
     subst hx
     exact ⟨this.2.1,this.2.2⟩
   ·exact h
  ·rw [if_pos he]
   intro x hx
   cases hx
theorem zhs {d:Disk} {p:Plan} {t:Int} :∀ (m:Nat) (k:Int) (l:List Int),(∀x∈l,0≤x∧x<256)→∀x∈(zcF d p t m k l).1,0≤x∧x<256
 |0,k,l,h=>h
 | m +1,k,l,h=>by
  rw [zcF]
  by_cases he:(eget d p t k).2=0
  ·rw [if_neg (by omega)]
   obtain ⟨hx1,_⟩:=zep he
   have hr:=zbm hx1
   have h2:∀x∈l++ [(eget d p t k).1.loc],0≤x∧x<256:=by
    intro x hx
    rcases List.mem_append.1 hx with hx|hx
    ·exact h x hx
    ·rw [List.mem_singleton] at hx
     subst hx
     exact ⟨hr.2.1,hr.2.2⟩
   split
   ·intro x hx;cases hx
   split
   ·exact zhs m _ l h
   split
   ·intro x hx;cases hx
   ·exact zhs m _ _ (zkw _ _ _ h2)
  ·rw [if_pos he]
   intro x hx
   cases hx
theorem zmV {d:Disk} {p:Plan} {t:Int} :∀x∈(reach d p t).1,0<=x/\x<256:=zhs _ _ _ (λx hx=>by cases hx)
theorem zkx {d:Disk} {p:Plan} {t:Int} :∀ (m:Nat) (k:Int) (l:List Int),(zb6 d p t m k l).1.length<=l.length+m
 |0,k,l=>Nat.le_refl _
 | m+1,k,l=>by
  rw [zb6];split
  ·simp
  ·refine Nat.le_trans (zkx m (k+1) _) ?_;split
   ·simp only [List.length_append,List.length_singleton];omega
   ·omega
theorem zht {d:Disk} {p:Plan} {t:Int} :∀ (m:Nat) (k:Int) (l:List Int),(zcF d p t m k l).1.length<=l.length+17*m
 |0,k,l=>Nat.le_refl _
 | m+1,k,l=>by
  rw [zcF];split
  ·simp
  split
  ·simp
  split
  ·refine Nat.le_trans (zht m (k+1) _) ?_;omega
  split
  ·simp
  ·refine Nat.le_trans (zht m (k+1) _) ?_;have:=zkx (d:=d) (p:=p) (t:=(eget d p t k).1.loc) 16 0 (l++ [(eget d p t k).1.loc]);simp only [List.length_append,List.length_singleton] at this;omega
theorem zfz {d:Disk} {p:Plan} {t:Int} :(reach d p t).1.length<=68:=by
 exact zht (d:=d) (p:=p) (t:=t) 4 0 []
open Go Go.Proofs
def shareK (d:Disk) (by_:Int):List Int->Plan->Plan×Int
 | [],q=>(q,0)
 |k::r,q=>if (radd d q k by_).2≠0 then (q,(radd d q k by_).2) else shareK d by_ r (radd d q k by_).1
def share (d:Disk) (p:Plan) (l1 by_:Int):Plan×Int:=
 if (reach d p l1).2≠0 then (p,(reach d p l1).2) else if (shareK d by_ (reach d p l1).1 p).2≠0 then (p,(shareK d by_ (reach d p l1).1 p).2) else shareK d by_ (reach d p l1).1 p
theorem DP.shareK {d:Disk} (by_:Int):∀ (l:List Int) {p:Plan},DP d p->DP d (shareK d by_ l p).1
 | [],p,h=>h
 |k::r,p,h=>by
  rw [Aw.shareK];split
  ·exact h
  ·exact DP.shareK by_ r (h.radd _ _)
theorem DP.share {d:Disk} {p:Plan} (h:DP d p) (l1 by_:Int):DP d (share d p l1 by_).1:=by
 unfold Aw.share;split
 ·exact h
 split
 ·exact h
 ·exact DP.shareK _ _ h
theorem DP.setsnap {d:Disk} {p:Plan} (h:DP d p) (i:Int) (s:Snp):DP d (setsnap d p i s).1:=by
 unfold Aw.setsnap;split
 ·exact h
 split
 ·exact h
 ·exact ⟨h.d,zhj h.p⟩
def sfind (l:List Snp) (id:Int):Int:=idxP (λs=>id !=0&&s.id==id) l 0
def zdw (x:Img) (id:Int) (q:Plan×Int):Img×Int×Int:=
 if q.2≠0 then (x,0,q.2) else if (cdone x q.1).2≠0 then ((cdone x q.1).1,0,(cdone x q.1).2) else ((cdone x q.1).1,id,0)
def zdx (x:Img) (r:Root) (q:Plan×Int):Img×Int×Int:=
 if q.2≠0 then (x,0,q.2) else zdw x r.next (zak q.1 ⟨r.l1,r.next+1⟩)
def zdy (x:Img) (name:Txt) (r:Root) (at_ k:Int) (q:Plan×Int):Img×Int×Int:=
 if q.2≠0 then (x,0,q.2) else zdx x r (setsnap x.disk q.1 at_ ⟨r.next,k,name⟩)
def zdz (x:Img) (name:Txt) (r:Root) (at_ k:Int) (q:Plan×Int):Img×Int×Int:=
 if q.2≠0 then (x,0,q.2) else zdy x name r at_ k (share x.disk q.1 r.l1 1)
def zcI (x:Img) (name:Txt) (r:Root) (at_:Int) (t:Plan×Int×Int):Img×Int×Int:=
 if t.2.2≠0 then (x,0,t.2.2) else zdz x name r at_ t.2.1 (ecopy x.disk t.1 r.l1 t.2.1)
def zag (x:Img) (name:Txt):Img×Int×Int:=
 if x.broken then (x,0,24) else if (ze x.disk p0).2≠0 then (x,0,(ze x.disk p0).2) else if (snaps x.disk p0).2≠0 then (x,0,(snaps x.disk p0).2)
 else if zaq name=false then (x,0,19) else if (snaps x.disk p0).1.any (λs=>s.id !=0&&s.name==name) then (x,0,20)
 else if idxP (λs=>s.id==0) (snaps x.disk p0).1 0<0 then (x,0,17) else if (ze x.disk p0).1.next=0\/(ze x.disk p0).1.next=4294967295 then (x,0,10)
 else zcI x name (ze x.disk p0).1 (idxP (λs=>s.id==0) (snaps x.disk p0).1 0) (rtake x.disk p0 x.geom)
def wipe2 (x:Img) (guest kind:Int):Img×Int:=
 if (ze x.disk p0).2≠0 then (x,(ze x.disk p0).2) else if (elook x.disk p0 (ze x.disk p0).1.l1 guest).2≠0 then (x,(elook x.disk p0 (ze x.disk p0).1.l1 guest).2)
 else if (elook x.disk p0 (ze x.disk p0).1.l1 guest).1.kind=kind then (x,0)
 else if (ppoint x.disk p0 x.geom guest ⟨kind,0⟩).2≠0 then (x,(ppoint x.disk p0 x.geom guest ⟨kind,0⟩).2) else cdone x (ppoint x.disk p0 x.geom guest ⟨kind,0⟩).1
def wipe (x:Img) (guest:Int) (hole:Bool):Img×Int:=
 if x.broken then (x,24) else if guest<0\/x.geom.guest<=guest then (x,10) else wipe2 (cmark x guest) guest (if hole then 0 else 2)
open Go Go.Proofs
theorem zoy (d:Disk) (p:Plan) (l1 by_:Int) (h:DP d p):AC 50 [diskA d,planA p,.d (.int .i64 l1),.d (.int .i64 by_)] (.tup [planA (share d p l1 by_).1,.d (.int .i64 (share d p l1 by_).2)]):=by
 refine fbod Tryz.func50 Tryz.ntmps50 (λbase=>?_);have hrl:=zfz (d:=d) (p:=p) (t:=l1);obtain ⟨W,hW⟩:∃W,W=reach d p l1:=⟨_,rfl⟩
 rw [<-hW] at hrl;have hsh:share d p l1 by_=if W.2≠0 then (p,W.2) else if (shareK d by_ W.1 p).2≠0 then (p,(shareK d by_ W.1 p).2) else shareK d by_ W.1 p:=by rw [share,hW]
 refine' walkW hW.symm (za zae <| za zaT <| zb _)
 ·rw [hsh,if_pos (bneP hc)]
 rw [if_neg (bneN hc)] at hsh;refine zq (λq: { q:Nat×Plan // q.1<=W.1.length/\DP d q.2/\shareK d by_ W.1 p=shareK d by_ (W.1.drop q.1) q.2 } =>⟨[(3,true,.d (.int .i64 by_)),(4,true,.vp 0 0),(5,true,.vp 1 0),(8,true,.vp 2 0),(10,true,.d (.sl 1 (W.1.map intD))),(12,true,.vp 3 0),(13,true,.d (.int .i64 q.1.1))],[(3,(.var [.d (.sl 1 (q.1.2.targets.map intD)),.d (.sl 1 (q.1.2.texts.map strD))])),(2,.var [.nils 1,.nils 1]),(1,(.var [.d (.sl 1 (p.targets.map intD)),.d (.sl 1 (p.texts.map strD))])),(0,(.var [.d (.str d.data),.d (.sl 2 (d.cache.map putD)),.d (.int .i64 d.fuse),.d (.bool d.off),.d (.sl 1 (d.bad.map intD))]))],some []⟩) (λq=>W.1.length - q.1.1) ⟨(0,p),Nat.zero_le _,h,rfl⟩ le1 (λq=>?_);obtain ⟨⟨i,q⟩,hi,hp,ht⟩:=q;simp only at hi hp ht ⊢;rcases zP intD W.1 i hi with ⟨u,hq,hlt,hcmp,hrow,hdr,htk⟩|⟨hend,hcmp⟩
 ·simp only [intD] at hrow;have hwi:=zr (i:=i) (by omega);rw [hdr,shareK] at ht;have hpn:=hp.radd u by_;obtain ⟨A,hA⟩:∃A,A=radd d q u by_:=⟨_,rfl⟩
  rw [<-hA] at ht hpn;refine' walkW (zB hcmp hrow hA.symm) (za zae <| za zaT <| zb _)
  ·rw [if_pos (bneP hc)] at ht;rw [hsh,ht,if_pos (bneP hc)]
  ·rw [if_neg (bneN hc)] at ht;exact ⟨⟨(i+1,A.1),by omega,hpn,ht⟩,lew,by simp;omega⟩
 ·rw [hend,List.drop_length] at ht;rw [ht,if_neg (by simp [shareK])] at hsh;refine' walkW hcmp (za zae <| za zaT <| zb _);rw [hsh];rfl
@[go_sem] noncomputable def zbZ:Ent Tryz.prog 50:= .m4 zu zw (intT .i64) (intT .i64) zoy
open Go Go.Proofs
def sbeg (d:Disk):Root×List Snp×Int:=((ze d p0).1,if (ze d p0).2≠0 then ([],(ze d p0).2) else snaps d p0)
theorem zoz (x:Img) (h:ImgF x):AC 35 [imgA x] (.tup [rootA (sbeg x.disk).1,.d (.sl 3 ((sbeg x.disk).2.1.map snpD)),.d (.int .i64 (sbeg x.disk).2.2)]):=by
 refine fbod Tryz.func35 Tryz.ntmps35 (λbase=>?_);have hdp:DP x.disk p0:=⟨h.disk,zaw⟩
 obtain ⟨R,hR⟩:∃R,R=ze x.disk p0:=⟨_,rfl⟩
 obtain ⟨L,hL⟩:∃L,L=snaps x.disk p0:=⟨_,rfl⟩
 have hs:sbeg x.disk=(R.1,if R.2≠0 then ([],R.2) else L):=by rw [sbeg,hR,hL]
 refine' walkW (zn hR.symm hL.symm) (za zbe <| za zdA <| zb _)
 ·rw [hs,if_pos (bneP hc)];rfl
 ·rw [hs,if_neg (bneN hc)]
@[go_sem] noncomputable def zb0:Ent Tryz.prog 35:= .m1 zbG zoz
theorem zq9 {l:List Snp} {P:Snp->Bool} {i:Nat} {s:Snp} (hq:l[i]?=some s):idxP P (l.take (i+1)) 0=if idxP P (l.take i) 0<0 then (if P s then (i:Int) else -1) else idxP P (l.take i) 0:=by
 have hi:i<l.length:=(List.getElem?_eq_some_iff.1 hq).1
 have hg:∀ (m:List Snp) (n:Nat),idxP P (m++ [s]) n=if idxP P m n<0 then (if P s then ((n+m.length:Nat):Int) else -1) else idxP P m n:=by
  intro m;induction m with
  |nil=>intro n;simp [idxP]
  | cons y m ih=>
   intro n;rw [List.cons_append];by_cases hy:P y=true
   ·have e1:idxP P (y::(m++ [s])) n=n:=by simp [idxP,hy]
    have e2:idxP P (y::m) n=n:=by simp [idxP,hy]
    rw [e1,e2,if_neg (by omega)]
   ·have e1:idxP P (y::(m++ [s])) n=idxP P (m++ [s]) (n+1):=by simp [idxP,hy]
    have e2:idxP P (y::m) n=idxP P m (n+1):=by simp [idxP,hy]
    rw [e1,e2,ih (n+1),List.length_cons,show n+1+m.length=n+(m.length+1) by omega]
 rw [zb7 hq,hg,Nat.zero_add,List.length_take,Nat.min_eq_left (by omega)]
theorem ze0 (d:Disk) (p:Plan):0<=(ze d p).1.l1/\(ze d p).1.l1<=65535/\0<=(ze d p).1.next/\(ze d p).1.next<=4294967295:=by
 unfold ze;split
 ·simp
 ·unfold rootT;repeat' split
  all_goals first|decide|exact zfR _
theorem zd2 {p:Plan} {r:Root} (hp:pfit p=true):pfit (zak p r).1=true:=by
 unfold zak;split
 ·exact hp
 ·exact zbU hp
def zgU (x:Img) (name:Txt) (R:Root) (L:List Snp):Img×Int×Int:=
 if zaq name=false then (x,0,19) else if L.any (λs=>s.id !=0&&s.name==name) then (x,0,20)
 else if idxP (λs=>s.id==0) L 0<0 then (x,0,17) else if R.next=0\/R.next=4294967295 then (x,0,10)
 else zcI x name R (idxP (λs=>s.id==0) L 0) (rtake x.disk p0 x.geom)
theorem zjd (x:Img) (name:Txt):zag x name=if x.broken then (x,0,24) else if (sbeg x.disk).2.2≠0 then (x,0,(sbeg x.disk).2.2) else zgU x name (sbeg x.disk).1 (sbeg x.disk).2.1:=by
 unfold zag sbeg zgU;by_cases h1:(ze x.disk p0).2=0
 ·simp only [h1,ne_eq,not_true_eq_false,if_false]
 ·simp only [h1,ne_eq,not_false_eq_true,if_true]
theorem zpK (d:Disk):(sbeg d).2.1.length<=8:=by
 unfold sbeg;simp only;split
 ·exact Nat.zero_le _
 ·exact zgM
theorem zmW (x:Img) (name:Txt) (hp:ImgF x/\name.length<=9223372036854775807):AC 11 [imgA x,.d (.str name)] (.tup [imgA (zag x name).1,.d (.int .u32 (zag x name).2.1),.d (.int .i64 (zag x name).2.2)]):=by
 obtain ⟨h,hn⟩:=hp;refine fbod Tryz.func11 Tryz.ntmps11 (λbase=>?_);have hdp:DP x.disk p0:=⟨h.disk,zaw⟩
 have hho:=h.host;have hiok:=h.ok;have hdok:=h.disk;have hq0:=h.seq0;have hq1:=h.seq1;have hLl:=zpK x.disk;have hRr:0<=(sbeg x.disk).1.next/\(sbeg x.disk).1.next<=4294967295:=(ze0 x.disk p0).2.2;obtain ⟨R,hR⟩:∃R,R=(sbeg x.disk).1:=⟨_,rfl⟩
 obtain ⟨L,hL⟩:∃L,L=(sbeg x.disk).2.1:=⟨_,rfl⟩
 obtain ⟨E,hE⟩:∃E,E=(sbeg x.disk).2.2:=⟨_,rfl⟩
 obtain ⟨Z,hZ⟩:∃Z,Z=zag x name:=⟨_,rfl⟩
 have hZ2:=hZ;rw [zjd,<-hR,<-hL,<-hE] at hZ2;rw [<-hL] at hLl;rw [<-hR] at hRr;refine' walkW (zah hR.symm hL.symm hE.symm hZ.symm) (za zb0 <| za zS <| za zbN <| za zbq <| za zbZ <| za zbo <| za zcl <| za zaC <| zb _)
 ·rw [hZ2,if_pos hc]
 ·rename_i h0;rw [hZ2,if_neg (by rw [h0];decide),if_pos (bneP hc)]
 ·rename_i h0 h1;rw [hZ2,if_neg (by rw [h0];decide),if_neg (bneN h1),zgU,if_pos (by simpa using hc)]
 rename_i h1 h2;rw [if_neg (by rw [h1];decide),if_neg (bneN h2),zgU,if_neg (by rw [Bool.not_eq_false'] at hc;rw [hc];decide)] at hZ2;obtain ⟨I,hI⟩:∃I:Int,I=idxP (λs=>s.id==0) L 0:=⟨_,rfl⟩
 rw [<-hI] at hZ2;refine zq (λq: { i:Nat // i<=L.length/\L.any (λs=>s.id !=0&&s.name==name)=(L.drop i).any (λs=>s.id !=0&&s.name==name) } =>⟨[(1,true,.d (.str name)),(2,true,.vp 0 0),(4,true,.vp 1 0),(7,true,.vp 2 0),(8,true,.d (.sl 3 (L.map snpD))),(10,true,.d (.int .i64 (idxP (λs=>s.id==0) (L.take q.1) 0))),(11,true,.d (.int .i64 q.1))],[(2,.var [.d (.int .i64 R.l1),.d (.int .u32 R.next)]),(1,.var img0),(0,.var (imgV x))],some []⟩) (λq=>L.length - q.1) ⟨0,Nat.zero_le _,rfl⟩ (by simp only [AS.le,leT,leH,zf,AsgK,AV.le,AV.leL,AObj.le,inH,idsT,idsH,AV.ids,AV.idsL,AV.idsR,AObj.ids,lk,hget,go_sem,aeq,aeq.aeqF,simprocAttr,idxP]<;>and_intros<;>rfl) (λq=>?_);obtain ⟨i,hi,ht⟩:=q;simp only at hi ht ⊢;rcases zP snpD L i hi with ⟨u,hq,hlt,hcmp,hrow,hdr,htk⟩|⟨hend,hcmp⟩
 ·simp only [snpD] at hrow;have hwi:=zr (i:=i) (by omega);have hsn:=zq9 (P:=λs=>s.id==0) hq;rw [hdr,List.any_cons] at ht;obtain ⟨k,hk⟩:∃k,k=idxP (λs=>s.id==0) (L.take i) 0:=⟨_,rfl⟩
  rw [<-hk] at hsn ⊢;cases hb:(u.id !=0&&u.name==name) with
  |true=>
   rw [hb,Bool.true_or] at ht;refine' walkW (zah hcmp hrow hb hZ.symm) (za zb0 <| za zS <| za zbN <| za zbq <| za zbZ <| za zbo <| za zcl <| za zaC <| zb _);rw [hZ2,if_pos ht]
  | false=>
   rw [hb,Bool.false_or] at ht;cases hb2:(u.id==0&&decide (k<0)) with
   | true=>
    have hk2:idxP (λs=>s.id==0) (L.take (i+1)) 0=i:=by rw [Bool.and_eq_true,decide_eq_true_eq] at hb2;rw [hsn,if_pos hb2.2,if_pos hb2.1]
    refine' walkW (zah hcmp hrow hb hb2) (za zb0 <| za zS <| za zbN <| za zbq <| za zbZ <| za zbo <| za zcl <| za zaC <| zb _);exact ⟨⟨i+1,by omega,ht⟩,by simp only [hk2];simp only [AS.le,leT,leH,zf,AsgK,AV.le,AV.leL,AObj.le,inH,idsT,idsH,AV.ids,AV.idsL,AV.idsR,AObj.ids,lk,hget,go_sem,aeq,aeq.aeqF,simprocAttr,hwi],by simp;omega⟩
   | false=>
    have hk2:idxP (λs=>s.id==0) (L.take (i+1)) 0=k:=by
     rw [hsn];by_cases hk0:k<0
     ·rw [if_pos hk0,if_neg (by rw [decide_eq_true hk0,Bool.and_true] at hb2;rw [hb2];decide)];rcases zeB (λs:Snp=>s.id==0) (L.take i) 0 with hh|hh<;>omega
     ·rw [if_neg hk0]
    refine' walkW (zah hcmp hrow hb hb2) (za zb0 <| za zS <| za zbN <| za zbq <| za zbZ <| za zbo <| za zcl <| za zaC <| zb _);exact ⟨⟨i+1,by omega,ht⟩,by simp only [hk2];simp only [AS.le,leT,leH,zf,AsgK,AV.le,AV.leL,AObj.le,inH,idsT,idsH,AV.ids,AV.idsL,AV.idsR,AObj.ids,lk,hget,go_sem,aeq,aeq.aeqF,simprocAttr,hwi],by simp;omega⟩
 rw [hend,List.drop_length] at ht;rw [if_neg (by rw [ht];simp)] at hZ2;rw [hend] at hcmp;rw [hend,List.take_length,<-hI];clear hI ht hi hend;obtain ⟨T,hT⟩:∃T,T=rtake x.disk p0 x.geom:=⟨_,rfl⟩
 have hd1:DP x.disk T.1:=by rw [hT];exact hdp.rtake _
 rw [<-hT,zcI] at hZ2;obtain ⟨C,hC⟩:∃C,C=ecopy x.disk T.1 R.l1 T.2.1:=⟨_,rfl⟩
 have hd2:DP x.disk C.1:=by rw [hC];exact hd1.ecopy _ _
 rw [<-hC,zdz] at hZ2;obtain ⟨S,hS⟩:∃S,S=share x.disk C.1 R.l1 1:=⟨_,rfl⟩
 have hd3:DP x.disk S.1:=by rw [hS];exact hd2.share _ _
 rw [<-hS,zdy] at hZ2;obtain ⟨P,hP⟩:∃P,P=setsnap x.disk S.1 I ⟨R.next,T.2.1,name⟩:=⟨_,rfl⟩
 have hd4:DP x.disk P.1:=by rw [hP];exact hd3.setsnap _ _
 rw [<-hP,zdx] at hZ2;obtain ⟨Q,hQ⟩:∃Q,Q=zak P.1 ⟨R.l1,R.next+1⟩:=⟨_,rfl⟩
 have hd5:pfit Q.1=true:=by rw [hQ];exact zd2 hd4.p
 have hd4p:=hd4.p;rw [<-hQ,zdw] at hZ2;obtain ⟨D,hD⟩:∃D,D=cdone x Q.1:=⟨_,rfl⟩
 rw [<-hD] at hZ2;refine' zgF (zav 20) (zn hcmp hZ.symm) (za zb0 <| za zS <| za zbN <| za zbq <| za zbZ <| za zbo <| za zcl <| za zaC <| zb _)
 ·rw [hZ2,if_pos (of_decide_eq_true hc)]
 ·rename_i h3;rw [hZ2,if_neg (of_decide_eq_false h3),if_pos (by simpa using hc)]
 rename_i h3;have hnx:R.next≠0/\R.next≠4294967295:=by simpa using hc
 have hwn:IntKind.u32.wrap (R.next+1)=R.next+1:=zfS (by omega) (by omega);rw [if_neg (of_decide_eq_false h3),if_neg (by omega)] at hZ2;refine' walkW (zL hT.symm hC.symm hS.symm hP.symm hQ.symm (zB hD.symm hZ.symm hwn)) (za zb0 <| za zS <| za zbN <| za zbq <| za zbZ <| za zbo <| za zcl <| za zaC <| zb _);all_goals first|omega|skip
 all_goals rw [hZ2]
 all_goals (refine (show (_:AV)=_ from ?_));(repeat (first|(rewrite [if_pos];rotate_left;(first|exact bneP (by assumption)|exact beqP (by assumption)|exact of_decide_eq_true (by assumption)|assumption))|(rewrite [if_neg];rotate_left;(first|exact bneN (by assumption)|exact beqN (by assumption)|exact of_decide_eq_false (by assumption)|assumption))))
 all_goals rfl
@[go_sem] noncomputable def zjR:Ent Tryz.prog 11:= .m2 zbG strT zmW
end Go.Aw
