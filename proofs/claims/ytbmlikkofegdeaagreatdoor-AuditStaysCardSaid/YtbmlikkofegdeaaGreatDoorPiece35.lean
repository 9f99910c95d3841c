/-
  Parts of the proof: StayA, StayB (short names; the readable texts lie in the repo, under wip).
-/
import Derived.Test.YtbmlikkofegdeaaGreatDoorPiece34
import Derived.Test.YtbmlikkofegdeaaGreatDoorPiece17
set_option maxRecDepth 100000
set_option maxHeartbeats 2000000
set_option linter.unusedSimpArgs false
set_option linter.unusedVariables false
namespace Go.Aw
open Go Go.Proofs
theorem zrc {x:Ent2} (h:entOk x=true):entT (zbg x)=(x,0):=by
 obtain ⟨hk,h0,h1⟩:=zbm h
 have hof:entOf (zbg x)=x:=by
  have h4:(256:Nat) ^ 4=4294967296:=by decide
  have e1:((zbg x).drop 4).take 4=putN x.loc.toNat 4:=by unfold zbg;rw [List.drop_append_of_le_length (by simp),show [UInt8.ofNat x.kind.toNat,0,0,0].drop 4= [] from rfl,List.nil_append,List.take_of_length_le (by rw [zK];omega)]
  have e2:(zbg x).getD 0 0=UInt8.ofNat x.kind.toNat:=rfl
  have e3:((UInt8.ofNat x.kind.toNat).toNat:Int)=x.kind:=by rcases hk with hk|hk|hk<;>rw [hk]<;>rfl
  unfold entOf;rw [e1,e2,zd1,Nat.mod_eq_of_lt (by omega),e3,Int.toNat_of_nonneg h0]
 unfold entT;rw [hof,h,if_neg (by simp)]
theorem eRef_iff {t i:Int} :eRef t i=false↔(0<=t/\t<256)/\0<=i/\i<16:=by unfold eRef;simp only [Bool.or_eq_false_iff,Bool.not_eq_false',decide_eq_false_iff_not,hostOk_iff];omega
theorem zeH {d d':Disk} {p p':Plan} {t:Int} (h:0<=t->t<256->plook d' p' (96+2*t)=plook d p (96+2*t)/\plook d' p' (97+2*t)=plook d p (97+2*t)) (i:Int):eget d' p' t i=eget d p t i:=by
 unfold eget;split
 ·rfl
 ·rename_i hr;obtain ⟨⟨h0,h1⟩,h2,h3⟩:=eRef_iff.1 (by simpa using hr);obtain ⟨e1,e2⟩:=h h0 h1
  have:plook d' p' (96+2*t+i / 8)=plook d p (96+2*t+i / 8):=by
   rcases Int.lt_or_le i 8 with hi|hi
   ·rw [show 96+2*t+i / 8=96+2*t by omega];exact e1
   ·rw [show 96+2*t+i / 8=97+2*t by omega];exact e2
  rw [this]
theorem zb1 {d d':Disk} {p p':Plan} (h:∀b:Int,87<=b->b<95->plook d' p' b=plook d p b) (k:Int):rget d' p' k=rget d p k:=by
 unfold rget;split
 ·rfl
 ·rename_i hk;have hk':zG k=true:=by simpa using hk
  have:=hostOk_iff.1 hk';rw [h _ (by omega) (by omega)]
theorem zjf {d:Disk} {p:Plan} {t i:Int} {x:Ent2} (h:(eset d p t i x).2=0):((0<=t/\t<256)/\0<=i/\i<16)/\entOk x=true/\(zcq d p (96+2*t+i / 8) (i % 8*8) (zbg x)).2=0/\eset d p t i x=zcq d p (96+2*t+i / 8) (i % 8*8) (zbg x):=by
 unfold eset at h ⊢;split at h
 ·exact absurd h (by simp)
 rename_i h1;rw [if_neg h1];split at h
 ·exact absurd h (by simp)
 rename_i h2;rw [if_neg h2];exact ⟨eRef_iff.1 (by simpa using h1),by simpa using h2,h,rfl⟩
theorem zm0 {d:Disk} {p:Plan} {t i:Int} {x:Ent2} (hd:DP d p) (h:(eset d p t i x).2=0) (t' i':Int):eget d (eset d p t i x).1 t' i'=if t'=t/\i'=i then (x,0) else eget d p t' i':=by
 obtain ⟨⟨ht,hi⟩,hx,hp,he⟩:=zjf h;have hlk:=(zfY hp).1;have h64:=zch hd hlk;have hv:=zcn hp hd.plen;have hlen:=zfu x;by_cases hr:eRef t' i'=false
 ·obtain ⟨ht',hi'⟩:=eRef_iff.1 hr
  have hg:∀q,eget d q t' i'=if (plook d q (96+2*t'+i' / 8)).2≠0 then (⟨0,0⟩,(plook d q (96+2*t'+i' / 8)).2) else entT (((plook d q (96+2*t'+i' / 8)).1.drop (i' % 8*8).toNat).take 8):=by intro q;unfold eget;rw [if_neg (by rw [hr];decide),List.drop_take,show (i' % 8*8+8).toNat - (i' % 8*8).toNat=8 by omega]
  rw [hg,hg,he,hv];by_cases es:96+2*t'+i' / 8=96+2*t+i / 8
  ·have et:t'=t:=by omega
   rw [if_pos es,if_neg (by simp)];simp only;by_cases ei:i'=i
   ·subst et ei;rw [if_pos ⟨rfl,rfl⟩];have hls:=zlv (b:=(plook d p (96+2*t'+i' / 8)).1) (s:=zbg x) (k:=(i' % 8*8).toNat) (by omega);rw [hlen] at hls;rw [hls,zrc hx]
   ·have hne:¬(t'=t/\i'=i):=λhh=>ei hh.2;rw [if_neg hne,es,if_neg (by omega),zjc (by omega) (by omega)]
  ·have hne:¬(t'=t/\i'=i):=by rintro ⟨rfl,rfl⟩;exact es rfl
   rw [if_neg es,if_neg hne]
 ·have hr':eRef t' i'=true:=by simpa using hr
  have hne:¬(t'=t/\i'=i):=by rintro ⟨rfl,rfl⟩;rw [eRef_iff.2 ⟨ht,hi⟩] at hr';cases hr'
  rw [if_neg hne];unfold eget;rw [if_pos hr',if_pos hr']
theorem zhu {d:Disk} {p:Plan} {t i:Int} {x:Ent2} (hd:DP d p) (h:(eset d p t i x).2=0) {b:Int} (hb:b<96):plook d (eset d p t i x).1 b=plook d p b:=by obtain ⟨⟨ht,hi⟩,hx,hp,he⟩:=zjf h;rw [he,zcn hp hd.plen,if_neg (by omega)]
theorem zcJ {d:Disk} {p:Plan} {a t:Int} (hd:DP d p) (h:(ecopy d p a t).2=0) {b:Int} (hb:b<96):plook d (ecopy d p a t).1 b=plook d p b:=by
 obtain ⟨c1,c2,c3,c4,c5,c6,c7⟩:=zeG h;have:=hostOk_iff.1 c2;have hdd:DP d (pset p (96+2*t) (plook d p (96+2*a)).1).1:=⟨hd.d,zbU hd.p⟩
 rw [c7];simp only;rw [za3 c6 hdd.plen,if_neg (by omega),za3 c4 hd.plen,if_neg (by omega)]
theorem zf0 {d:Disk} {p:Plan} {a t:Int} (hd:DP d p) (h:(ecopy d p a t).2=0) (hne:a≠t) (t' i:Int):eget d (ecopy d p a t).1 t' i=if t'=t then eget d p a i else eget d p t' i:=by
 obtain ⟨h1,h2,_⟩:=zeG h;have ha:=hostOk_iff.1 h1;have ht:=hostOk_iff.1 h2;have hv:=zoA hd h hne;by_cases e:t'=t
 ·subst e;rw [if_pos rfl];have hr:eRef t' i=eRef a i:=by unfold eRef;rw [h1,h2]
  unfold eget;rw [hr];split
  ·rfl
  ·rename_i hr2;obtain ⟨_,h3,h4⟩:=eRef_iff.1 (show eRef a i=false by simpa using hr2);rcases Int.lt_or_le i 8 with hi|hi
   ·rw [show 96+2*t'+i / 8=96+2*t' by omega,show 96+2*a+i / 8=96+2*a by omega,show plook d (ecopy d p a t').1 (96+2*t')=plook d p (96+2*a) by rw [hv,if_pos rfl]]
   ·rw [show 96+2*t'+i / 8=97+2*t' by omega,show 96+2*a+i / 8=97+2*a by omega,show plook d (ecopy d p a t').1 (97+2*t')=plook d p (97+2*a) by rw [hv,if_neg (by omega),if_pos rfl]]
 ·rw [if_neg e];refine zeH (λh0 h1=>⟨?_,?_⟩) i
  ·rw [hv,if_neg (by omega),if_neg (by omega)]
  ·rw [hv,if_neg (by omega),if_neg (by omega)]
theorem zjg {p:Plan} {t:Int} (h:(eblank p t).2=0):zG t=true/\(pset p (96+2*t) z64).2=0/\(pset (pset p (96+2*t) z64).1 (97+2*t) z64).2=0/\eblank p t=((pset (pset p (96+2*t) z64).1 (97+2*t) z64).1,0):=by
 unfold eblank at h ⊢;split at h
 ·exact absurd h (by simp)
 rename_i h1;rw [if_neg h1];simp only [zbp,Int.add_zero,Int.zero_add,ne_eq,not_true_eq_false,if_false] at h ⊢;rw [show 96+2*t+1=97+2*t by omega] at h ⊢;split at h
 ·rename_i h3;exact absurd h h3
 rename_i h3;rw [if_neg h3];split at h
 ·rename_i h5;exact absurd h h5
 rename_i h5;rw [if_neg h5];exact ⟨by simpa using h1,by simpa using h3,by simpa using h5,rfl⟩
theorem zfA {d:Disk} {p:Plan} {t:Int} (hd:DP d p) (h:(eblank p t).2=0) (b:Int):plook d (eblank p t).1 b=if b=96+2*t\/b=97+2*t then (z64,0) else plook d p b:=by
 obtain ⟨h1,h2,h3,h4⟩:=zjg h;have hdd:DP d (pset p (96+2*t) z64).1:=⟨hd.d,zbU hd.p⟩
 rw [h4];simp only;rw [za3 h3 hdd.plen,za3 h2 hd.plen];by_cases e1:b=97+2*t
 ·rw [if_pos e1,if_pos (.inr e1)]
 ·rw [if_neg e1];by_cases e2:b=96+2*t
  ·rw [if_pos e2,if_pos (.inl e2)]
  ·rw [if_neg e2,if_neg (by omega)]
theorem zjh {d:Disk} {p:Plan} {t:Int} (hd:DP d p) (h:(eblank p t).2=0) (t' i:Int):eget d (eblank p t).1 t' i=if t'=t then (⟨0,0⟩,if 0<=i/\i<16 then 0 else 10) else eget d p t' i:=by
 have hv:=zfA hd h;obtain ⟨h1,_⟩:=zjg h;have ht:=hostOk_iff.1 h1;by_cases e:t'=t
 ·subst e;rw [if_pos rfl];unfold eget;by_cases hr:eRef t' i=false
  ·obtain ⟨_,h3,h4⟩:=eRef_iff.1 hr;have hz:plook d (eblank p t').1 (96+2*t'+i / 8)=(z64,0):=by rw [hv,if_pos (by omega)]
   have h16:0<=i/\i<16:=⟨h3,h4⟩
   rw [if_neg (by rw [hr];decide),hz,if_pos h16,if_neg (by simp)];simp only;rw [List.drop_take,show (i % 8*8+8).toNat - (i % 8*8).toNat=8 by omega,z64,List.drop_replicate,List.take_replicate,show min 8 (64 - (i % 8*8).toNat)=8 by omega];decide
  ·have hr':eRef t' i=true:=by simpa using hr
   have hni:¬(0<=i/\i<16):=λhh=>by rw [eRef_iff.2 ⟨ht,hh⟩] at hr';cases hr'
   rw [if_pos hr',if_neg hni]
 ·rw [if_neg e];refine zeH (λh0 h1=>⟨?_,?_⟩) i
  ·rw [hv,if_neg (by omega)]
  ·rw [hv,if_neg (by omega)]
abbrev EF:=Int->Int->Ent2×Int
def eat (e:Ent2):List Int:=if e.kind=1 then [e.loc] else []
def kids (E:EF) (t:Int):List Int:=(List.range 16).flatMap λ(k:Nat)=>eat (E t k).1
def piece (E:EF) (t i:Int):List Int:=if (E t i).1.kind=0 then [] else (E t i).1.loc::kids E (E t i).1.loc
def rl (E:EF) (t:Int):List Int:=(List.range 4).flatMap λ(i:Nat)=>piece E t i
def kOk (E:EF) (t:Int):Prop:=∀k:Nat,k<16->(E t k).2=0
def pOk (E:EF) (t i:Int):Prop:=(E t i).2=0/\(E t i).1.kind≠2/\((E t i).1.kind≠0->kOk E (E t i).1.loc)
def rOk (E:EF) (t:Int):Prop:=∀i:Nat,i<4->pOk E t i
theorem zoB {α:Type} (f:Nat->List α) (m k:Nat):(List.range (m+1)).flatMap (λj=>f (k+j))=f k++(List.range m).flatMap (λj=>f (k+1+j)):=by
 rw [List.range_succ_eq_map,List.flatMap_cons,List.flatMap_map,Nat.add_zero];congr 1
 have:(λj=>f (k+Nat.succ j))=λj=>f (k+1+j):=by funext j;rw [show k+Nat.succ j=k+1+j by omega]
 rw [this]
theorem zm1 {d:Disk} {p:Plan} {t:Int} :∀ (m k:Nat) (l:List Int),(zb6 d p t m k l).2=0->(∀j:Nat,k<=j->j<k+m->(eget d p t j).2=0)/\(zb6 d p t m k l).1=l++(List.range m).flatMap (λj=>eat (eget d p t ((k+j:Nat):Int)).1)
 |0,k,l,h=>⟨λj h1 h2=>by omega,by simp [zb6]⟩
 | m+1,k,l,h=>by
  rw [zb6] at h ⊢;by_cases he:(eget d p t k).2=0
  ·rw [if_neg (by omega)] at h ⊢;have hk:((k:Int)+1)=((k+1:Nat):Int):=by omega
   rw [hk] at h ⊢;obtain ⟨h1,h2⟩:=zm1 m (k+1) _ h;refine ⟨λj hj1 hj2=>?_,?_⟩
   ·by_cases e:j=k
    ·subst e;exact he
    ·exact h1 j (by omega) (by omega)
   ·rw [h2,zoB (λj=>eat (eget d p t (j:Nat)).1),<-List.append_assoc];congr 1;unfold eat;split
    ·rfl
    ·rw [List.append_nil]
  ·rw [if_pos he] at h;exact absurd h he
theorem zm2 {d:Disk} {p:Plan} {t:Int} :∀ (m k:Nat) (l:List Int),(∀j:Nat,k<=j->j<k+m->(eget d p t j).2=0)->(zb6 d p t m k l).2=0
 |0,k,l,h=>rfl
 |m+1,k,l,h=>by
  have h1:=h k (Nat.le_refl _) (by omega);rw [zb6,if_neg (by omega)];have hk:((k:Int)+1)=((k+1:Nat):Int):=by omega
  rw [hk];exact zm2 m (k+1) _ (λj hj1 hj2=>h j (by omega) (by omega))
theorem zji {d:Disk} {p:Plan} {t:Int} :∀ (m i:Nat) (l:List Int),(zcF d p t m i l).2=0→(∀j:Nat,i≤j→j<i+m→pOk (eget d p) t j)∧(zcF d p t m i l).1=l++(List.range m).flatMap (fun j=>piece (eget d p) t ((i+j:Nat):Int))
 |0,i,l,h=>⟨fun j h1 h2=>by omega,by simp [zcF]⟩
 | m +1,i,l,h=>by
  rw [zcF] at h ⊢
  have hi:((i:Int)+1)=((i+1:Nat):Int):=by omega
  rw [hi] at h ⊢
  split at h
  ·rename_i h1;exact absurd h h1
  rename_i h1
  rw [if_neg h1]
  split at h
  ·exact absurd h (by simp)
  rename_i h2
  rw [if_neg h2]
  split at h
  ·rename_i h3
   rw [if_pos h3]
   obtain ⟨g1,g2⟩:=zji m (i+1) _ h
   refine ⟨fun j hj1 hj2=>?_,?_⟩
   ·by_cases e:j=i
    ·subst e;exact ⟨by simpa using h1,h2,fun hk=>absurd h3 hk⟩
    ·exact g1 j (by omega) (by omega)
   ·rw [g2,zoB (fun j=>piece (eget d p) t (j:Nat))]
    have:piece (eget d p) t (i:Nat)= []:=by unfold piece;rw [if_pos h3]
    rw [this,List.nil_append]
  ·rename_i h3
   rw [if_neg h3]
   split at h
   ·rename_i h4;exact absurd h h4
   rename_i h4
   rw [if_neg h4]
   obtain ⟨c1,c2⟩:=zm1 (d:=d) (p:=p) (t:=(eget d p t i).1.loc) 16 0 (l++ [(eget d p t i).1.loc]) (by simpa using h4)
   obtain ⟨g1,g2⟩:=zji m (i+1) _ h
   refine ⟨fun j hj1 hj2=>?_,?_⟩
   ·by_cases e:j=i
    ·subst e;exact ⟨by simpa using h1,h2,fun _ k hk=>c1 k (Nat.zero_le _) (by omega)⟩
    ·exact g1 j (by omega) (by omega)
   ·have hp:piece (eget d p) t (i:Nat)=(eget d p t i).1.loc::kids (eget d p) (eget d p t i).1.loc:=by unfold piece;rw [if_neg h3]
    have hc:(zb6 d p (eget d p t i).1.loc 16 0 (l++ [(eget d p t i).1.loc])).1=l++piece (eget d p) t (i:Nat):=by
     rw [show (0:Int)=((0:Nat):Int) from rfl,c2,hp,List.append_assoc]
     congr 1
     all_goals (unfold kids;simp only [Nat.zero_add,List.singleton_append])
    rw [g2,zoB (fun j=>piece (eget d p) t (j:Nat)),hc,List.append_assoc]
theorem zm3 {d:Disk} {p:Plan} {t:Int} :∀ (m i:Nat) (l:List Int),(∀j:Nat,i<=j->j<i+m->pOk (eget d p) t j)->(zcF d p t m i l).2=0
 |0,i,l,h=>rfl
 | m+1,i,l,h=>by
  obtain ⟨h1,h2,h3⟩:=h i (Nat.le_refl _) (by omega);have hi:((i:Int)+1)=((i+1:Nat):Int):=by omega
  have ih:∀l,(zcF d p t m ((i:Int)+1) l).2=0:=λl=>by rw [hi];exact zm3 m (i+1) l (λj hj1 hj2=>h j (by omega) (by omega))
  rw [zcF,if_neg (by omega),if_neg h2];split
  ·exact ih _
  ·rename_i h4;have hj:=zm2 (d:=d) (p:=p) (t:=(eget d p t i).1.loc) 16 0 (l++ [(eget d p t i).1.loc]) (λj _ hj=>h3 h4 j (by omega));rw [show ((0:Nat):Int)=0 from rfl] at hj;rw [if_neg (by omega)];exact ih _
theorem zh9 {d:Disk} {p:Plan} {t:Int} (h:(reach d p t).2=0):rOk (eget d p) t/\(reach d p t).1=rl (eget d p) t:=by obtain ⟨h1,h2⟩:=zji (d:=d) (p:=p) (t:=t) 4 0 [] h;refine ⟨λi hi=>h1 i (Nat.zero_le _) (by omega),?_⟩;unfold reach rl;rw [show (0:Int)=((0:Nat):Int) from rfl,h2,List.nil_append];simp
theorem zvK {d:Disk} {p:Plan} {t:Int} (h:rOk (eget d p) t):(reach d p t).2=0:=zm3 (d:=d) (p:=p) (t:=t) 4 0 [] (λj _ hj=>h j (by omega))
def allL (E:EF) (F:List Int):List Int:=F.flatMap λt=>rl E t++ [t]
theorem zaE (E:EF) (t:Int) (F:List Int):allL E (t::F)=rl E t++ [t]++allL E F:=by simp [allL]
theorem zpQ (E:EF) (F G:List Int):allL E (F++G)=allL E F++allL E G:=by simp [allL]
theorem zX {E:EF} {F:List Int} {t x:Int} (ht:t∈F) (hx:x∈rl E t\/x=t):x∈allL E F:=by unfold allL;rw [List.mem_flatMap];exact ⟨t,ht,by simpa using hx⟩
theorem zd5 {E:EF} {t x:Int} {i:Nat} (hi:i<4) (hx:x∈piece E t i):x∈rl E t:=by unfold rl;rw [List.mem_flatMap];exact ⟨i,by simpa using hi,hx⟩
theorem za0 {E:EF} {t i:Int} (h:(E t i).1.kind≠0):(E t i).1.loc∈piece E t i:=by unfold piece;rw [if_neg h];exact List.mem_cons_self ..
theorem zf1 {f:Nat->List Int} {n i0:Nat} (h:i0<n):∃A B,(List.range n).flatMap f=A++f i0++B/\(∀i,i<n->i≠i0->∀x∈f i,x∈A\/x∈B)/\∀f':Nat->List Int,(∀i,i<n->i≠i0->f' i=f i)->(List.range n).flatMap f'=A++f' i0++B:=by
 have hq:(List.range n)[i0]?=some i0:=List.getElem?_range h;obtain ⟨h1,_⟩:=zmX hq 0
 have hgen:∀f:Nat->List Int,(List.range n).flatMap f=((List.range n).take i0).flatMap f++f i0++((List.range n).drop (i0+1)).flatMap f:=by
  intro f;conv=>lhs;rw [h1]
  rw [List.flatMap_append,List.flatMap_cons,List.append_assoc]
 have hm1:∀i∈(List.range n).take i0,i<n/\i≠i0:=by intro i hi;rw [List.take_range,List.mem_range] at hi;omega
 have hm2:∀i∈(List.range n).drop (i0+1),i<n/\i≠i0:=by intro i hi;obtain ⟨j,hj,rfl⟩:=List.mem_iff_getElem.1 hi;rw [List.getElem_drop,List.getElem_range];rw [List.length_drop,List.length_range] at hj;omega
 refine ⟨((List.range n).take i0).flatMap f,((List.range n).drop (i0+1)).flatMap f,hgen f,?_,?_⟩
 ·intro i hi hne x hx;have:x∈(List.range n).flatMap f:=List.mem_flatMap.2 ⟨i,by simpa using hi,hx⟩
  have hi2:i∈(List.range n).take i0\/i∈(List.range n).drop (i0+1):=by
   have:i∈(List.range n).take i0++i0::(List.range n).drop (i0+1):=by rw [<-h1];simpa using hi
   rw [List.mem_append,List.mem_cons] at this;rcases this with h|h|h
   ·exact .inl h
   ·exact absurd h hne
   ·exact .inr h
  rcases hi2 with h|h
  ·exact .inl (List.mem_flatMap.2 ⟨i,h,hx⟩)
  ·exact .inr (List.mem_flatMap.2 ⟨i,h,hx⟩)
 ·intro f' hf
  have hc:∀l:List Nat,(∀i∈l,i<n/\i≠i0)->l.flatMap f'=l.flatMap f:=by
   intro l hl;induction l with
   |nil=>rfl
   |cons a l ih=>
    rw [List.flatMap_cons,List.flatMap_cons,hf a (hl a (List.mem_cons_self ..)).1 (hl a (List.mem_cons_self ..)).2,ih (λi hi=>hl i (List.mem_cons_of_mem _ hi))]
  rw [hgen f',hc _ hm1,hc _ hm2]
theorem zhv {E E':EF} {t t':Int} (h:∀k:Nat,k<16->E' t' k=E t k):kids E' t'=kids E t:=by
 unfold kids
 have:∀l:List Nat,(∀k∈l,k<16)->l.flatMap (λ(k:Nat)=>eat (E' t' k).1)=l.flatMap (λ(k:Nat)=>eat (E t k).1):=by
  intro l hl;induction l with
  |nil=>rfl
  |cons a l ih=>rw [List.flatMap_cons,List.flatMap_cons,h a (hl a (List.mem_cons_self ..)),ih (λi hi=>hl i (List.mem_cons_of_mem _ hi))]
 exact this _ (λk hk=>by simpa using hk)
theorem zd6 {E E':EF} {t t' i:Int} (h:E' t' i=E t i) (hk:(E t i).1.kind≠0->∀k:Nat,k<16->E' (E t i).1.loc k=E (E t i).1.loc k):piece E' t' i=piece E t i/\(pOk E t i->pOk E' t' i):=by
 constructor
 ·unfold piece;rw [h];split
  ·rfl
  ·rename_i h0;rw [zhv (hk h0)]
 ·rintro ⟨h1,h2,h3⟩;refine ⟨by rw [h];exact h1,by rw [h];exact h2,?_⟩;rw [h];intro h0 k hk1;rw [hk h0 k hk1];exact h3 h0 k hk1
theorem zia {E E':EF} {t t':Int} (h:∀i:Nat,i<4->E' t' i=E t i) (hk:∀i:Nat,i<4->(E t i).1.kind≠0->∀k:Nat,k<16->E' (E t i).1.loc k=E (E t i).1.loc k):rl E' t'=rl E t/\(rOk E t->rOk E' t'):=by
 constructor
 ·unfold rl
  have:∀l:List Nat,(∀k∈l,k<4)->l.flatMap (λ(i:Nat)=>piece E' t' i)=l.flatMap (λ(i:Nat)=>piece E t i):=by
   intro l hl;induction l with
   |nil=>rfl
   |cons a l ih=>
    have ha:=hl a (List.mem_cons_self ..);rw [List.flatMap_cons,List.flatMap_cons,(zd6 (h a ha) (hk a ha)).1,ih (λi hi=>hl i (List.mem_cons_of_mem _ hi))]
  exact this _ (λk hk=>by simpa using hk)
 ·exact λhr i hi=>(zd6 (h i hi) (hk i hi)).2 (hr i hi)
theorem zf2 {E E':EF} {F:List Int} {C:Int->Prop} (hE:∀t,¬C t->∀i:Int,E' t i=E t i) (hC:∀x∈allL E F,¬C x):allL E' F=allL E F/\((∀t∈F,rOk E t)->∀t∈F,rOk E' t):=by
 have hone:∀t∈F,rl E' t=rl E t/\(rOk E t->rOk E' t):=by intro t ht;refine zia (λi hi=>hE t (hC t (zX ht (.inr rfl))) i) (λi hi h0 k hk=>hE _ (hC _ (zX ht (.inl (zd5 hi (za0 h0))))) k)
 constructor
 ·unfold allL
  have:∀l:List Int,(∀t∈l,t∈F)->l.flatMap (λt=>rl E' t++ [t])=l.flatMap (λt=>rl E t++ [t]):=by
   intro l hl;induction l with
   |nil=>rfl
   |cons a l ih=>rw [List.flatMap_cons,List.flatMap_cons,(hone a (hl a (List.mem_cons_self ..))).1,ih (λi hi=>hl i (List.mem_cons_of_mem _ hi))]
  exact this F (λ_ h=>h)
 ·exact λhr t ht=>(hone t ht).2 (hr t ht)
theorem ztw {E:EF} {r c:Int} {S:List Int} {i0:Nat} (hi:i0<4) (h1:(allL E (r::S)).count r=1) (hc:c≠r):
  (∀k,(allL (λt (i:Int)=>if t=r/\i=i0 then (⟨1,c⟩,0) else E t i) (r::S)).count k+(piece E r i0).count k=(allL E (r::S)).count k+(c::kids E c).count k)/\
  (kOk E c->(∀t∈r::S,rOk E t)->∀t∈r::S,rOk (λt (i:Int)=>if t=r/\i=i0 then (⟨1,c⟩,0) else E t i) t):=by
 obtain ⟨E',hE'⟩:∃E':EF,E'=λt (i:Int)=>if t=r/\i=i0 then (⟨1,c⟩,0) else E t i:=⟨_,rfl⟩
 rw [<-hE'];have hsame:∀t i,¬(t=r/\i=(i0:Int))->E' t i=E t i:=by intro t i h;rw [hE'];simp only [if_neg h]
 have hnew:E' r i0=(⟨1,c⟩,0):=by rw [hE'];simp
 rw [zaE,List.count_append,List.count_append,List.count_singleton_self] at h1;have hr1:r ∉ rl E r:=List.count_eq_zero.1 (by omega);have hr2:r ∉ allL E S:=List.count_eq_zero.1 (by omega);obtain ⟨hS,hSo⟩:=zf2 (E:=E) (E':=E') (F:=S) (C:=λt=>t=r) (λt ht i=>hsame t i (λh=>ht h.1)) (λx hx hxr=>hr2 (hxr ▸ hx));obtain ⟨A,B,g1,g2,g3⟩:=zf1 (f:=λ(i:Nat)=>piece E r i) hi
 have hpc:∀i:Nat,i<4->i≠i0->piece E' r i=piece E r i/\(pOk E r i->pOk E' r i):=by intro i hi4 hne;refine zd6 (hsame _ _ (λh=>hne (by omega))) (λh0 k hk=>hsame _ _ (λh=>?_));have hm:=zd5 (E:=E) (t:=r) hi4 (za0 h0);rw [h.1] at hm;exact hr1 hm
 have hkc:kids E' c=kids E c:=zhv (λk hk=>hsame _ _ (λh=>hc h.1))
 have hp0:piece E' r i0=c::kids E c:=by unfold piece;rw [hnew,if_neg (by simp),hkc]
 have hrl:rl E' r=A++(c::kids E c)++B:=by unfold rl;rw [g3 (λ(i:Nat)=>piece E' r i) (λi hi hne=>(hpc i hi hne).1),hp0]
 have hrl0:rl E r=A++piece E r i0++B:=g1;constructor
 ·intro k;rw [zaE,zaE,hS,hrl,hrl0];simp only [List.count_append];omega
 ·intro hkO hro t ht;rcases List.mem_cons.1 ht with rfl|ht
  ·intro i hi4;by_cases e:i=i0
   ·subst e;refine ⟨by rw [hnew],by rw [hnew];simp,λ_=>?_⟩;rw [hnew];intro k hk;rw [hsame _ _ (λh=>hc h.1)];exact hkO k hk
   ·exact (hpc i hi4 e).2 (hro _ (List.mem_cons_self ..) i hi4)
  ·exact hSo (λt ht=>hro t (List.mem_cons_of_mem _ ht)) t ht
theorem zrd {E:EF} {r t2:Int} {x:Ent2} {S:List Int} {i0 j0:Nat} (hi:i0<4) (hj:j0<16) (hk:(E r i0).1.kind=1) (hl:(E r i0).1.loc=t2) (h1:(allL E (r::S)).count t2=1):
  (∀k,(allL (λt (i:Int)=>if t=t2/\i=j0 then (x,0) else E t i) (r::S)).count k+(eat (E t2 j0).1).count k=(allL E (r::S)).count k+(eat x).count k)/\
  ((∀t∈r::S,rOk E t)->∀t∈r::S,rOk (λt (i:Int)=>if t=t2/\i=j0 then (x,0) else E t i) t):=by
 obtain ⟨E',hE'⟩:∃E':EF,E'=λt (i:Int)=>if t=t2/\i=j0 then (x,0) else E t i:=⟨_,rfl⟩
 rw [<-hE'];have hsame:∀t i,¬(t=t2/\i=(j0:Int))->E' t i=E t i:=by intro t i h;rw [hE'];simp only [if_neg h]
 have hnew:E' t2 j0=(x,0):=by rw [hE'];simp
 obtain ⟨A,B,g1,g2,g3⟩:=zf1 (f:=λ(i:Nat)=>piece E r i) hi;have hp0:piece E r i0=t2::kids E t2:=by unfold piece;rw [hk,if_neg (by decide),hl]
 have hrl0:rl E r=A++(t2::kids E t2)++B:=by unfold rl;rw [g1];show A++piece E r i0++B=_;rw [hp0]
 rw [zaE,hrl0] at h1;simp only [List.count_append,List.count_cons_self] at h1;have n1:t2 ∉ A:=List.count_eq_zero.1 (by omega);have n2:t2 ∉ B:=List.count_eq_zero.1 (by omega);have n3:t2 ∉ allL E S:=List.count_eq_zero.1 (by omega);have n4:t2 ∉ [r]:=List.count_eq_zero.1 (by omega)
 have hr2:r≠t2:=by rintro rfl;exact n4 (List.mem_singleton.2 rfl)
 obtain ⟨hS,hSo⟩:=zf2 (E:=E) (E':=E') (F:=S) (C:=λt=>t=t2) (λt ht i=>hsame t i (λh=>ht h.1)) (λy hy hyr=>n3 (hyr ▸ hy))
 have hpc:∀i:Nat,i<4->i≠i0->piece E' r i=piece E r i/\(pOk E r i->pOk E' r i):=by
  intro i hi4 hne;refine zd6 (hsame _ _ (λh=>hr2 h.1)) (λh0 k hk=>hsame _ _ (λh=>?_));rcases g2 i hi4 hne _ (za0 h0) with hh|hh
  ·exact n1 (h.1 ▸ hh)
  ·exact n2 (h.1 ▸ hh)
 obtain ⟨A2,B2,k1,k2,k3⟩:=zf1 (f:=λ(k:Nat)=>eat (E t2 k).1) hj;have hkid:kids E t2=A2++eat (E t2 j0).1++B2:=k1
 have hkid2:kids E' t2=A2++eat x++B2:=by unfold kids;rw [k3 (λ(k:Nat)=>eat (E' t2 k).1) (λi hi hne=>by rw [hsame _ _ (λh=>hne (by omega))]),hnew]
 have hr0:E' r i0=E r i0:=hsame _ _ (λh=>hr2 h.1);have hp0':piece E' r i0=t2::kids E' t2:=by unfold piece;rw [hr0,hk,if_neg (by decide),hl]
 have hrl:rl E' r=A++(t2::kids E' t2)++B:=by unfold rl;rw [g3 (λ(i:Nat)=>piece E' r i) (λi hi hne=>(hpc i hi hne).1),hp0']
 constructor
 ·intro k;rw [zaE,zaE,hS,hrl,hrl0,hkid,hkid2];simp only [List.count_append,List.count_cons];omega
 ·intro hro t ht;rcases List.mem_cons.1 ht with rfl|ht
  ·intro i hi4;by_cases e:i=i0
   ·subst e;obtain ⟨q1,q2,q3⟩:=hro _ (List.mem_cons_self ..) i hi4;refine ⟨by rw [hr0];exact q1,by rw [hr0];exact q2,λh0=>?_⟩;rw [hr0] at h0 ⊢;intro k hk16;rw [hl];by_cases e2:k=j0
    ·subst e2;rw [hnew]
    ·rw [hsame _ _ (λh=>e2 (by omega)),<-hl];exact q3 h0 k hk16
   ·exact (hpc i hi4 e).2 (hro _ (List.mem_cons_self ..) i hi4)
  ·exact hSo (λt ht=>hro t (List.mem_cons_of_mem _ ht)) t ht
theorem zre {E:EF} {r a:Int} {S:List Int} (h1:(allL E (r::S)).count r=1) (ha:a∈S):
  (∀k,(allL (λt (i:Int)=>if t=r then E a i else E t i) (r::S)).count k+(rl E r).count k=(allL E (r::S)).count k+(rl E a).count k)/\
  ((∀t∈r::S,rOk E t)->∀t∈r::S,rOk (λt (i:Int)=>if t=r then E a i else E t i) t):=by
 obtain ⟨E',hE'⟩:∃E':EF,E'=λt (i:Int)=>if t=r then E a i else E t i:=⟨_,rfl⟩
 rw [<-hE'];have hsame:∀t,t≠r->∀i,E' t i=E t i:=by intro t h i;rw [hE'];simp only [if_neg h]
 have hnew:∀i,E' r i=E a i:=by intro i;rw [hE'];simp
 rw [zaE,List.count_append,List.count_append,List.count_singleton_self] at h1;have hr2:r ∉ allL E S:=List.count_eq_zero.1 (by omega);obtain ⟨hS,hSo⟩:=zf2 (E:=E) (E':=E') (F:=S) (C:=λt=>t=r) (λt ht i=>hsame t ht i) (λx hx hxr=>hr2 (hxr ▸ hx));have hra:rl E' r=rl E a/\(rOk E a->rOk E' r):=zia (λi hi=>hnew i) (λi hi h0 k hk=>hsame _ (λh=>hr2 (h ▸ zX ha (.inl (zd5 hi (za0 h0))))) k);constructor
 ·intro k;rw [zaE,zaE,hS,hra.1];simp only [List.count_append];omega
 ·intro hro t ht;rcases List.mem_cons.1 ht with rfl|ht
  ·exact hra.2 (hro a (List.mem_cons_of_mem _ ha))
  ·exact hSo (λt ht=>hro t (List.mem_cons_of_mem _ ht)) t ht
open Go Go.Proofs
structure Sound (E:EF) (N:Int->Int×Int) (h:Int) (r:Int) (S:List Int) (D:Int->Int):Prop where
 ok:∀t∈r::S,rOk E t
 rng:∀k∈allL E (r::S),0<=k/\k<h
 cnt:∀k:Int,0<=k->k<h->N k=(((allL E (r::S)).count k:Nat)+D k,0)
 alone:∀t∈r::S,(allL E (r::S)).count t=1
abbrev V (d:Disk) (p:Plan) (h r:Int) (S:List Int) (D:Int->Int):Prop:=Sound (eget d p) (rget d p) h r S D
def oneI (k j:Int):Int:=if j=k then 1 else 0
def cnI (l:List Int) (k:Int):Int:=(l.count k:Nat)
theorem zc1 (a b:List Int) (k:Int):cnI (a++b) k=cnI a k+cnI b k:=by unfold cnI;rw [List.count_append];omega
theorem zbI (a:Int) (b:List Int) (k:Int):cnI (a::b) k=oneI a k+cnI b k:=by
 unfold cnI oneI;rw [List.count_cons];by_cases e:k=a
 ·subst e;simp;omega
 ·have:(a==k)=false:=by simpa using λh=>e h.symm
  simp [this,e]
theorem ze5 (k:Int):cnI [] k=0:=rfl
theorem ze6 {l:List Int} {k:Int} (h:k ∉ l):cnI l k=0:=by unfold cnI;rw [List.count_eq_zero.2 h];rfl
theorem zbD {l:List Int} {k:Int} (h:k∈l):1<=cnI l k:=by have:=List.count_pos_iff.2 h;unfold cnI;omega
theorem zxx {l:List Int} {k:Int} (h:cnI l k<=0):k ∉ l:=λhm=>by have:=zbD hm;omega
theorem Sound.of {E E':EF} {N N':Int->Int×Int} {h r:Int} {S:List Int} {D D':Int->Int} (s:Sound E N h r S D) (hE:∀t i,E' t i=E t i) (hN:∀k,N' k=N k) (hD:∀k,D' k=D k):Sound E' N' h r S D':=by
 have e1:E'=E:=by funext t i;exact hE t i
 have e2:N'=N:=by funext k;exact hN k
 have e3:D'=D:=by funext k;exact hD k
 rw [e1,e2,e3];exact s
theorem zjj (E:EF) (k:Int):∀F:List Int,cnI (allL E F) k=cnI (F.flatMap (rl E)) k+cnI F k
 | []=>rfl
 |t::F=>by rw [zaE,zc1,zc1,zbI,ze5,zjj E k F,List.flatMap_cons,zc1,zbI];omega
theorem Sound.first_not {E:EF} {N:Int->Int×Int} {h r:Int} {S:List Int} {D:Int->Int} (s:Sound E N h r S D) {t u:Int} (ht:t∈r::S) (hu:u∈r::S):t ∉ rl E u:=by
 intro hm;have h1:cnI (allL E (r::S)) t=1:=by unfold cnI;rw [s.alone t ht];rfl
 rw [zjj] at h1;have h2:1<=cnI ((r::S).flatMap (rl E)) t:=zbD (List.mem_flatMap.2 ⟨u,hu,hm⟩);have h3:=zbD ht;omega
theorem Sound.not_twice {E:EF} {N:Int->Int×Int} {h r:Int} {S:List Int} {D:Int->Int} (s:Sound E N h r S D) {t:Int} (ht:t∈r::S):cnI (r::S) t=1:=by
 have h1:cnI (allL E (r::S)) t=1:=by unfold cnI;rw [s.alone t ht];rfl
 rw [zjj] at h1;have h3:=zbD ht;have h4:0<=cnI ((r::S).flatMap (rl E)) t:=Int.natCast_nonneg _;omega
theorem Sound.move {E E':EF} {N:Int->Int×Int} {h r:Int} {S:List Int} {D:Int->Int} (s:Sound E N h r S D) {old new:List Int}
  (hc:∀k,(allL E' (r::S)).count k+old.count k=(allL E (r::S)).count k+new.count k) (ho:∀t∈r::S,rOk E' t) (hr:∀k∈new,0<=k/\k<h)
  (h1:∀t∈r::S,t ∉ old) (h2:∀t∈r::S,t ∉ new):Sound E' N h r S (λk=>D k+cnI old k - cnI new k):=by
 refine ⟨ho,λk hk=>?_,λk h0 h3=>?_,λt ht=>?_⟩
 ·have hp:=List.count_pos_iff.2 hk;have:=hc k;by_cases hn:k∈new
  ·exact hr k hn
  ·have hz:=List.count_eq_zero.2 hn;exact s.rng k (List.count_pos_iff.1 (by omega))
 ·rw [s.cnt k h0 h3];have:=hc k;unfold cnI;congr 1;omega
 ·have:=hc t;rw [List.count_eq_zero.2 (h1 t ht),List.count_eq_zero.2 (h2 t ht),s.alone t ht] at this;exact this
theorem Sound.apart {E E':EF} {N:Int->Int×Int} {h r:Int} {S:List Int} {D:Int->Int} (s:Sound E N h r S D) {c:Int} (hc:c ∉ allL E (r::S)) (hE:∀t,t≠c->∀i,E' t i=E t i):Sound E' N h r S D/\allL E' (r::S)=allL E (r::S):=by obtain ⟨g1,g2⟩:=zf2 (E:=E) (E':=E') (F:=r::S) (C:=λt=>t=c) (λt ht i=>hE t ht i) (λx hx hxc=>hc (hxc ▸ hx));exact ⟨⟨g2 s.ok,by rw [g1];exact s.rng,by rw [g1];exact s.cnt,by rw [g1];exact s.alone⟩,g1⟩
theorem zdB {d:Disk} {p p':Plan} (h:∀b:Int,95<=b->plook d p' b=plook d p b) (t i:Int):eget d p' t i=eget d p t i:=zeH (λh0 _=>⟨h _ (by omega),h _ (by omega)⟩) i
theorem V.radd {d:Disk} {p:Plan} {h r:Int} {S:List Int} {D:Int->Int} (s:V d p h r S D) (hd:DP d p) {k b:Int} (hr:(radd d p k b).2=0):V d (radd d p k b).1 h r S (λj=>D j+b*oneI k j):=by
 have hE:eget d (Aw.radd d p k b).1=eget d p:=by funext t i;exact zdB (λb hb=>zbz hd hr (.inr hb)) t i
 refine ⟨by rw [hE];exact s.ok,by rw [hE];exact s.rng,λj h0 h1=>?_,by rw [hE];exact s.alone⟩;rw [hE,ztq hd hr];unfold oneI;by_cases e:j=k
 ·subst e;rw [if_pos rfl,if_pos rfl,s.cnt j h0 h1];simp only [Int.mul_one];congr 1;omega
 ·rw [if_neg e,if_neg e,s.cnt j h0 h1];simp
theorem zm4 {d:Disk} {p:Plan} :∀ (m k:Nat),(zdX d p m k).2=0->∃j:Nat,k<=j/\j<k+m/\(zdX d p m k).1=j/\rget d p j=(0,0)/\rget d p0 j=(0,0)
 |0,k,h=>by simp [zdX] at h
 | m+1,k,h=>by
  rw [zdX] at h ⊢;split at h
  ·rename_i h1;exact absurd h h1
  rename_i h1;rw [if_neg h1];split at h
  ·rename_i h2;exact absurd h h2
  rename_i h2;rw [if_neg h2];split at h
  ·rename_i h3;rw [if_pos h3];exact ⟨k,Nat.le_refl _,by omega,rfl,Prod.ext h3.1 (by simpa using h1),Prod.ext h3.2 (by simpa using h2)⟩
  ·rename_i h3;rw [if_neg h3];have hk:((k:Int)+1)=((k+1:Nat):Int):=by omega
   rw [hk] at h ⊢;obtain ⟨j,h4,h5,h6,h7,h8⟩:=zm4 m (k+1) h;exact ⟨j,by omega,by omega,h6,h7,h8⟩
theorem V.rtake {d:Disk} {p:Plan} {h r:Int} {S:List Int} {D:Int->Int} {g:Geom} (s:V d p h r S D) (hd:DP d p) (hg:g.host<=h) (hD:∀k,0<=k->k<h->0<=D k) (ht:(rtake d p g).2.2=0):
  0<=(rtake d p g).2.1/\(rtake d p g).2.1<h/\(rtake d p g).2.1 ∉ allL (eget d p) (r::S)/\D (rtake d p g).2.1=0/\(rget d p0 (rtake d p g).2.1).1=0/\V d (rtake d p g).1 h r S (λj=>D j+oneI (rtake d p g).2.1 j)/\∀t i,eget d (rtake d p g).1 t i=eget d p t i:=by
 obtain ⟨h1,h2,h3⟩:=zkA ht;obtain ⟨j,h4,h5,h6,h7,h8⟩:=zm4 (d:=d) (p:=p) g.host.toNat 0 h1;have hj:(rfind d p g).1=j:=h6;have hE:∀t i,eget d (Aw.rtake d p g).1 t i=eget d p t i:=λt i=>zdB (λb hb=>ze1 hd ht (.inr hb)) t i;have hv:=V.radd s hd h2;rw [h3];simp only;rw [hj] at hv h2 ⊢;have hc:=s.cnt j (by omega) (by omega);rw [h7] at hc;have hc1:=congrArg Prod.fst hc;have hd0:=hD j (by omega) (by omega);simp only at hc1;refine ⟨by omega,by omega,List.count_eq_zero.1 (by omega),by omega,by rw [h8],?_,?_⟩
 ·exact Sound.of hv (λ_ _=>rfl) (λ_=>rfl) (λk=>by simp only [Int.one_mul])
 ·intro t i;have:=hE t i;rw [h3] at this;simp only at this;rw [hj] at this;exact this
theorem V.shareK {d:Disk} {by_:Int} {h r:Int} {S:List Int} :∀ (l:List Int) {p:Plan} {D:Int->Int},V d p h r S D->DP d p->(shareK d by_ l p).2=0->V d (shareK d by_ l p).1 h r S (λj=>D j+by_*cnI l j)
 | [],p,D,s,hd,h=>Sound.of s (λ_ _=>rfl) (λ_=>rfl) (λk=>by simp [ze5])
 | k::l,p,D,s,hd,h=>by
  rw [Aw.shareK] at h ⊢;by_cases he:(Aw.radd d p k by_).2=0
  ·rw [if_neg (by omega)] at h ⊢;refine Sound.of (V.shareK l (s.radd hd he) (hd.radd k by_) h) (λ_ _=>rfl) (λ_=>rfl) (λj=>?_);rw [zbI,Int.mul_add];omega
  ·rw [if_pos he] at h;exact absurd h he
theorem zdJ {d:Disk} {p:Plan} {t by_:Int} (hd:DP d p) (h:(share d p t by_).2=0) (t' i:Int):eget d (share d p t by_).1 t' i=eget d p t' i:=zdB (λb hb=>zd3 hd h (.inr hb)) t' i
theorem V.shared {d:Disk} {p:Plan} {t by_:Int} {h r:Int} {S:List Int} {D:Int->Int} (s:V d p h r S D) (hd:DP d p) (hs:(share d p t by_).2=0):V d (share d p t by_).1 h r S (λj=>D j+by_*cnI (rl (eget d p) t) j):=by obtain ⟨h1,h2,h3⟩:=zkz hs;rw [h3,(zh9 h1).2];rw [(zh9 h1).2] at h2;exact V.shareK _ s hd h2
theorem zjk {d:Disk} {p:Plan} {t i:Int} (h:(eget d p t i).2=0) (h2:(eget d p t i).1.kind≠2) (h0:(eget d p t i).1.kind≠0):(eget d p t i).1.kind=1:=by have:=(zbm (zep h).1).1;omega
theorem ztx {E:EF} {t:Int} (h:∀k:Nat,k<16->(E t k).1.kind≠1):kids E t= []:=by unfold kids;rw [List.flatMap_eq_nil_iff];intro k hk;unfold eat;rw [if_neg (h k (by simpa using hk))]
theorem V.fresh {d:Disk} {p:Plan} {h r:Int} {S:List Int} {D:Int->Int} {g:Geom} {i0:Nat} {fr:Int} (s:V d p h r S D) (hd:DP d p) (hg:g.host<=h) (hD:∀k,0<=k->k<h->0<=D k) (hi:i0<4)
  (hf:(fr<0/\(eget d p r i0).1.kind=0)\/(0<=fr/\(eget d p r i0).1.kind=1/\(eget d p r i0).1.loc=fr)) (he:(pfresh d p g r i0 fr).2.2=0):
  V d (pfresh d p g r i0 fr).1 h r S D/\eget d (pfresh d p g r i0 fr).1 r i0=(⟨1,(pfresh d p g r i0 fr).2.1⟩,0)/\cnI (allL (eget d (pfresh d p g r i0 fr).1) (r::S)) (pfresh d p g r i0 fr).2.1=1/\(pfresh d p g r i0 fr).2.1 ∉ allL (eget d p) (r::S)/\D (pfresh d p g r i0 fr).2.1=0/\
  (∀t,t≠r->t≠(pfresh d p g r i0 fr).2.1->∀i,eget d (pfresh d p g r i0 fr).1 t i=eget d p t i)/\(∀i:Int,i≠i0->eget d (pfresh d p g r i0 fr).1 r i=eget d p r i)/\
  (∀i:Nat,i<16->eget d (pfresh d p g r i0 fr).1 (pfresh d p g r i0 fr).2.1 i=if fr<0 then (⟨0,0⟩,0) else eget d p fr i):=by
 obtain ⟨T,hT⟩:∃T,T=Aw.rtake d p g:=⟨_,rfl⟩
 obtain ⟨C,hC⟩:∃C,C=pfill d T.1 fr T.2.1:=⟨_,rfl⟩
 obtain ⟨L,hL⟩:∃L,L=pless d C.1 fr:=⟨_,rfl⟩
 obtain ⟨W,hW⟩:∃W,W=eset d L.1 r i0 ⟨1,T.2.1⟩:=⟨_,rfl⟩
 have hun:pfresh d p g r i0 fr=if T.2.2≠0 then (p,0,T.2.2) else if C.2≠0 then (p,0,C.2) else if L.2≠0 then (p,0,L.2) else if W.2≠0 then (p,0,W.2) else (W.1,T.2.1,0):=by rw [hW,hL,hC,hT];rfl
 rw [hun] at he ⊢;split at he
 ·rename_i h1;exact absurd he h1
 rename_i h1;split at he
 ·rename_i h2;exact absurd he h2
 rename_i h2;split at he
 ·rename_i h3;exact absurd he h3
 rename_i h3;split at he
 ·rename_i h4;exact absurd he h4
 rename_i h4;rw [if_neg h1,if_neg h2,if_neg h3,if_neg h4];clear hun he;simp only;have h1':T.2.2=0:=by simpa using h1
 have h2':C.2=0:=by simpa using h2
 have h3':L.2=0:=by simpa using h3
 have h4':W.2=0:=by simpa using h4
 obtain ⟨c,hc⟩:∃c,c=T.2.1:=⟨_,rfl⟩
 rw [<-hc] at hC hW ⊢;have hdT:DP d T.1:=by rw [hT];exact hd.rtake g
 have hdC:DP d C.1:=by rw [hC];exact hdT.pfill _ _
 have hdL:DP d L.1:=by rw [hL];exact hdC.pless _
 obtain ⟨t1,t2,t3,t4,t5,t6,t7⟩:=V.rtake s hd hg hD (g:=g) (by rw [<-hT];exact h1');rw [<-hT] at t1 t2 t3 t4 t5 t6 t7;rw [<-hc] at t1 t2 t3 t4 t5 t6
 have hcr:c≠r:=by rintro rfl;exact t3 (zX (List.mem_cons_self ..) (.inr rfl))
 have hrc:r ∉ allL (eget d p) (r::S)->False:=λhn=>hn (zX (List.mem_cons_self ..) (.inr rfl))
 have hCe:∀t,t≠c->∀i,eget d C.1 t i=eget d p t i:=by
  intro t ht i;rw [<-t7 t i,hC];unfold pfill;split
  ·rename_i hfr;rw [zjh hdT (by rw [hC] at h2';unfold pfill at h2';rw [if_pos hfr] at h2';exact h2'),if_neg ht]
  ·rename_i hfr
   have hne:fr≠c:=by
    rintro rfl;rcases hf with ⟨h,_⟩|⟨_,hk,hl⟩
    ·exact hfr h
    ·exact t3 (zX (List.mem_cons_self ..) (.inl (zd5 hi (by rw [<-hl];exact za0 (by rw [hk];decide)))))
   rw [zf0 hdT (by rw [hC] at h2';unfold pfill at h2';rw [if_neg hfr] at h2';exact h2') hne,if_neg ht]
 have hCc:∀i:Nat,i<16->eget d C.1 c i=if fr<0 then (⟨0,0⟩,0) else eget d p fr i:=by
  intro i hi16;rw [hC];unfold pfill;split
  ·rename_i hfr;rw [zjh hdT (by rw [hC] at h2';unfold pfill at h2';rw [if_pos hfr] at h2';exact h2'),if_pos rfl,if_pos (by omega)]
  ·rename_i hfr
   have hne:fr≠c:=by
    rintro rfl;rcases hf with ⟨h,_⟩|⟨_,hk,hl⟩
    ·exact hfr h
    ·exact t3 (zX (List.mem_cons_self ..) (.inl (zd5 hi (by rw [<-hl];exact za0 (by rw [hk];decide)))))
   rw [zf0 hdT (by rw [hC] at h2';unfold pfill at h2';rw [if_neg hfr] at h2';exact h2') hne,if_pos rfl,t7]
 have hCr:∀k,rget d C.1 k=rget d T.1 k:=λk=>zb1 (λb h0 h1=>by
  rw [hC];unfold pfill;split
  ·rename_i hfr;have hb:=hC ▸ h2';unfold pfill at hb;rw [if_pos hfr] at hb;rw [zfA hdT hb,if_neg (by omega)]
  ·rename_i hfr;have hb:=hC ▸ h2';unfold pfill at hb;rw [if_neg hfr] at hb;exact zcJ hdT hb (by omega)) k
 have hLe:∀t i,eget d L.1 t i=eget d C.1 t i:=by
  intro t i;rw [hL];unfold pless;split
  ·rfl
  ·rename_i hfr;have hb:=hL ▸ h3';unfold pless at hb;rw [if_neg hfr] at hb;exact zdB (λb hb2=>zbz hdC hb (.inr hb2)) t i
 have sT:Sound (eget d p) (rget d T.1) h r S (λj=>D j+oneI c j):=Sound.of t6 (λt i=>(t7 t i).symm) (λ_=>rfl) (λ_=>rfl);obtain ⟨sC,aC⟩:=sT.apart t3 hCe;have sC':V d C.1 h r S (λj=>D j+oneI c j):=Sound.of sC (λ_ _=>rfl) hCr (λ_=>rfl)
 have sL:V d L.1 h r S (λj=>D j+oneI c j - if fr<0 then 0 else oneI fr j):=by
  rw [hL];unfold pless;split
  ·exact Sound.of sC' (λ_ _=>rfl) (λ_=>rfl) (λk=>by simp)
  ·rename_i hfr;have hb:=hL ▸ h3';unfold pless at hb;rw [if_neg hfr] at hb;exact Sound.of (V.radd sC' hdC hb) (λ_ _=>rfl) (λ_=>rfl) (λk=>by first|omega|(simp only;omega))
 have hLE:eget d L.1=eget d C.1:=by funext t i;exact hLe t i
 have sL:Sound (eget d C.1) (rget d L.1) h r S (λj=>D j+oneI c j - if fr<0 then 0 else oneI fr j):=Sound.of sL (λt i=>(hLe t i).symm) (λ_=>rfl) (λ_=>rfl)
 have hWe:∀t i,eget d W.1 t i=if t=r/\i=(i0:Int) then (⟨1,c⟩,0) else eget d C.1 t i:=by intro t i;rw [hW,zm0 hdL (by rw [<-hW];exact h4'),hLE]
 have hWE:eget d W.1=λt i=>if t=r/\i=(i0:Int) then (⟨1,c⟩,0) else eget d C.1 t i:=by funext t i;exact hWe t i
 have hWr:∀k,rget d W.1 k=rget d L.1 k:=λk=>zb1 (λb h0 h1=>by rw [hW];exact zhu hdL (by rw [<-hW];exact h4') (by omega)) k
 obtain ⟨m1,m2⟩:=ztw (E:=eget d C.1) (c:=c) hi (sL.alone r (List.mem_cons_self ..)) hcr;rw [<-hWE] at m1 m2
 have hkC:kOk (eget d C.1) c:=by
  intro k hk;rw [hCc k hk];split
  ·rfl
  ·rename_i hfr;rcases hf with ⟨h,_⟩|⟨_,hk1,hl⟩
   ·exact absurd h hfr
   ·have:=(s.ok r (List.mem_cons_self ..) i0 hi).2.2 (by rw [hk1];decide);rw [hl] at this;exact this k hk
 have hkids:kids (eget d C.1) c=if fr<0 then [] else kids (eget d p) fr:=by
  split
  ·rename_i hfr;exact ztx (λk hk=>by rw [hCc k hk,if_pos hfr];decide)
  ·rename_i hfr;exact zhv (λk hk=>by rw [hCc k hk,if_neg hfr])
 have hpo:piece (eget d C.1) r i0=piece (eget d p) r i0:=(zd6 (hCe r (λh=>hcr h.symm) i0) (λh0 k hk=>hCe _ (λh=>t3 (h ▸ zX (List.mem_cons_self ..) (.inl (zd5 hi (za0 h0))))) k)).1
 have hpv:piece (eget d p) r i0=if fr<0 then [] else fr::kids (eget d p) fr:=by
  unfold piece;rcases hf with ⟨h,hk⟩|⟨h,hk,hl⟩
  ·rw [if_pos hk,if_pos h]
  ·rw [if_neg (by rw [hk];decide),if_neg (by omega),hl]
 have hin:∀k∈piece (eget d p) r i0,k∈rl (eget d p) r:=λk hk=>zd5 hi hk
 have hnw:∀k∈c::kids (eget d C.1) c,k=c\/k∈rl (eget d p) r:=by
  intro k hk;rcases List.mem_cons.1 hk with h|h
  ·exact .inl h
  ·rw [hkids] at h;split at h
   ·cases h
   ·rename_i hfr;exact .inr (hin k (by rw [hpv,if_neg hfr];exact List.mem_cons_of_mem _ h))
 have mv:=sL.move (old:=piece (eget d C.1) r i0) (new:=c::kids (eget d C.1) c) m1 (m2 hkC sL.ok)
  (λk hk=>by
   rcases hnw k hk with rfl|h
   ·exact ⟨t1,t2⟩
   ·exact s.rng k (zX (List.mem_cons_self ..) (.inl h)))
  (λt ht hm=>by rw [hpo] at hm;exact s.first_not ht (List.mem_cons_self ..) (hin t hm))
  (λt ht hm=>by
   rcases hnw t hm with rfl|h
   ·exact t3 (zX ht (.inr rfl))
   ·exact s.first_not ht (List.mem_cons_self ..) h)
 refine ⟨Sound.of mv (λ_ _=>rfl) hWr (λk=>?_),by rw [hWe,if_pos ⟨rfl,rfl⟩],?_,t3,t4,?_,?_,?_⟩
 ·rw [hpo,hpv,hkids,zbI];split
  ·rw [ze5];omega
  ·rw [zbI];omega
 ·have hm:=m1 c;have e0:(allL (eget d C.1) (r::S)).count c=0:=by rw [aC];exact List.count_eq_zero.2 t3
  have e1:(piece (eget d C.1) r i0).count c=0:=List.count_eq_zero.2 (λhm2=>by rw [hpo] at hm2;exact t3 (zX (List.mem_cons_self ..) (.inl (hin c hm2))))
  have e2:(kids (eget d C.1) c).count c=0:=List.count_eq_zero.2 (λhm2=>by
   rw [hkids] at hm2;split at hm2
   ·cases hm2
   ·rename_i hfr;exact t3 (zX (List.mem_cons_self ..) (.inl (hin c (by rw [hpv,if_neg hfr];exact List.mem_cons_of_mem _ hm2)))))
  rw [List.count_cons_self,e0,e1,e2] at hm;unfold cnI;omega
 ·intro t ht htc i;have hne:¬(t=r/\i=(i0:Int)):=λhh=>ht hh.1;rw [hWe,if_neg hne,hCe t htc]
 ·intro i hii;have hne:¬(r=r/\i=(i0:Int)):=λhh=>hii hh.2;rw [hWe,if_neg hne,hCe r (λh=>hcr h.symm)]
 ·intro i hi16;have hne:¬(c=r/\(i:Int)=(i0:Int)):=λhh=>hcr hh.1;rw [hWe,if_neg hne,hCc i hi16]
end Go.Aw
