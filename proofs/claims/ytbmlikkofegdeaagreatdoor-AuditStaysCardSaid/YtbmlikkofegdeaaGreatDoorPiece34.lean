/-
  Parts of the proof: SnapC, ViewC, SnapL (short names; the readable texts lie in the repo, under wip).
-/
import Derived.Test.YtbmlikkofegdeaaGreatDoorPiece33
import Derived.Test.YtbmlikkofegdeaaGreatDoorPiece17
import Derived.Test.YtbmlikkofegdeaaGreatDoorPiece32
set_option maxRecDepth 100000
set_option maxHeartbeats 2000000
set_option linter.unusedSimpArgs false
set_option linter.unusedVariables false
namespace Go.Aw
open Go Go.Proofs
theorem zvJ (d:Disk):∀s∈(sbeg d).2.1,SnpFit s:=by
 unfold sbeg;simp only;split
 ·intro s hs;cases hs
 ·exact ziX
def snpAt (l:List Snp) (i:Int):Snp:=l.getD i.toNat snp0
theorem zlx {l:List Snp} {id:Int} (h:0<=sfind l id):∃u,l[(sfind l id).toNat]?=some u/\snpAt l (sfind l id)=u/\(sfind l id).toNat<l.length/\sfind l id=((sfind l id).toNat:Nat):=by
 rcases zeB (λs:Snp=>id !=0&&s.id==id) l 0 with hh|hh
 ·unfold sfind at h;omega
 ·have hlt:(sfind l id).toNat<l.length:=by unfold sfind;omega
  obtain ⟨u,hu⟩:=zas hlt;exact ⟨u,hu,by rw [snpAt,List.getD_eq_getElem?_getD,hu];rfl,hlt,by omega⟩
def sdelC (x:Img) (q:Plan×Int):Img×Int:=if q.2≠0 then (x,q.2) else cdone x q.1
def sdelB (x:Img) (i:Int) (q:Plan×Int):Img×Int:=if q.2≠0 then (x,q.2) else sdelC x (setsnap x.disk q.1 i snp0)
def sdelA (x:Img) (i k:Int) (q:Plan×Int):Img×Int:=if q.2≠0 then (x,q.2) else sdelB x i (radd x.disk q.1 k (-1))
def zbB (x:Img) (id:Int):Img×Int:=
 if x.broken then (x,24) else if (sbeg x.disk).2.2≠0 then (x,(sbeg x.disk).2.2) else if sfind (sbeg x.disk).2.1 id<0 then (x,21)
 else sdelA x (sfind (sbeg x.disk).2.1 id) (snpAt (sbeg x.disk).2.1 (sfind (sbeg x.disk).2.1 id)).l1 (share x.disk p0 (snpAt (sbeg x.disk).2.1 (sfind (sbeg x.disk).2.1 id)).l1 (-1))
def zcf (x:Img):Nat->Img
 |0=>x
 |n+1=>cmark (zcf x n) n
def srevC (x:Img) (q:Img×Int):Img×Int:=if q.2≠0 then (q.1,q.2) else (zcf q.1 64,0)
def srevB (x:Img) (q:Plan×Int):Img×Int:=if q.2≠0 then (x,q.2) else srevC x (cdone x q.1)
def srevA (x:Img) (k r:Int) (q:Plan×Int):Img×Int:=if q.2≠0 then (x,q.2) else srevB x (ecopy x.disk q.1 k r)
def srev0 (x:Img) (k r:Int) (q:Plan×Int):Img×Int:=if q.2≠0 then (x,q.2) else srevA x k r (share x.disk q.1 r (-1))
def zbC (x:Img) (id:Int):Img×Int:=
 if x.broken then (x,24) else if (sbeg x.disk).2.2≠0 then (x,(sbeg x.disk).2.2) else if sfind (sbeg x.disk).2.1 id<0 then (x,21)
 else srev0 x (snpAt (sbeg x.disk).2.1 (sfind (sbeg x.disk).2.1 id)).l1 (sbeg x.disk).1.l1 (share x.disk p0 (snpAt (sbeg x.disk).2.1 (sfind (sbeg x.disk).2.1 id)).l1 1)
theorem ImgF.marks {x:Img} (h:ImgF x):∀n,ImgF (zcf x n)
 |0=>h
 |n+1=>(ImgF.marks h n).mark n
open Go Go.Proofs
def Alike (d:Disk) (p:Plan) (d':Disk) (p':Plan):Prop:=∀b,b<6\/95<=b->plook d p b=plook d' p' b
theorem Alike.root {d d':Disk} {p p':Plan} (h:Alike d p d' p'):ze d p=ze d' p':=by unfold ze;rw [h 1 (by omega)]
theorem Alike.snapsK {d d':Disk} {p p':Plan} (h:Alike d p d' p'):∀ (m i:Nat) (l:List Snp),m+i<=8->snapsK d p m i l=snapsK d' p' m i l
 |0,i,l,hm=>rfl
 |m+1,i,l,hm=>by rw [Aw.snapsK,Aw.snapsK,h (2+(i / 4:Nat)) (by omega),h.snapsK m (i+1) _ (by omega)]
theorem Alike.snaps {d d':Disk} {p p':Plan} (h:Alike d p d' p'):snaps d p=snaps d' p':=h.snapsK 8 0 [] (by omega)
theorem zky (d:Disk) (b:Int):plook d p0 b=dread d b:=by
 have:¬0<=pfind p0.targets b:=by show ¬(0:Int)<= -1;decide
 unfold plook;rw [if_neg this]
theorem zpL {d:Disk} {p:Plan} :∀ (m k:Nat) (l:List Int),(rallK d p m k l).2=0→(∀i,k≤i→i<k+m→(rget d p (i:Nat)).2=0)∧(rallK d p m k l).1=l++(List.range m).map (fun i=>(rget d p ((k+i:Nat):Int)).1)
 |0,k,l,h=>⟨fun i h1 h2=>by omega,by simp [rallK]⟩
 | m +1,k,l,h=>by
  rw [rallK] at h ⊢
  by_cases he:(rget d p k).2=0
  ·rw [if_neg (by omega)] at h ⊢
   have hk:((k:Int)+1)=((k+1:Nat):Int):=by omega
   rw [hk] at h ⊢
   obtain ⟨h1,h2⟩:=zpL m (k+1) _ h
   refine ⟨fun i hi1 hi2=>?_,?_⟩
   ·by_cases e:i=k
    ·subst e;exact he
    ·exact h1 i (by omega) (by omega)
   ·have hm:(List.range m).map (fun i=>(rget d p ((k+1+i:Nat):Int)).1)=(List.range m).map ((fun i=>(rget d p ((k+i:Nat):Int)).1) ∘ Nat.succ):=by
     refine List.map_congr_left (fun i _=>?_)
     simp only [Function.comp]
     rw [show k+1+i=k+Nat.succ i by omega]
    rw [h2,List.range_succ_eq_map,List.map_cons,List.map_map,List.append_assoc,List.singleton_append,hm,Nat.add_zero]
  ·rw [if_pos he] at h
   exact absurd h he
theorem zpM {d:Disk} {p:Plan} :∀ (m k:Nat) (l:List Int),(∀i,k<=i->i<k+m->(rget d p (i:Nat)).2=0)->(rallK d p m k l).2=0
 |0,k,l,h=>rfl
 |m+1,k,l,h=>by
  rw [rallK,if_neg (by have:=h k (Nat.le_refl _) (by omega);omega)];have hk:((k:Int)+1)=((k+1:Nat):Int):=by omega
  rw [hk];exact zpM m (k+1) _ (λi h1 h2=>h i (by omega) (by omega))
theorem zly {d:Disk} {p:Plan} {n:Nat} (h:(rall d p n).2=0):n<=256/\(∀i,i<n->(rget d p (i:Nat)).2=0)/\(rall d p n).1=(List.range n).map (λ(i:Nat)=>(rget d p (i:Int)).1):=by
 unfold rall at h ⊢;split at h
 ·exact absurd h (by simp)
 rename_i h1;rw [if_neg h1];rw [Int.toNat_natCast] at h ⊢;obtain ⟨h2,h3⟩:=zpL n 0 [] h;refine ⟨by omega,λi hi=>h2 i (Nat.zero_le _) (by omega),?_⟩;rw [show (0:Int)=((0:Nat):Int) from rfl,h3];simp
theorem zxv {d:Disk} {p:Plan} {n:Nat} (hn:n<=256) (h:∀i,i<n->(rget d p (i:Nat)).2=0):(rall d p n).2=0:=by unfold rall;rw [if_neg (by omega),Int.toNat_natCast];exact zpM n 0 [] (λi _ h2=>h i (by omega))
theorem zlz:∀ (k:Nat) (ws hs:List Int) (f:Fnd),f∈fnds k ws hs->∃i,f.loc=((k+i:Nat):Int)/\ws[i]?=some f.want/\hs[i]?=some f.have_/\f.have_≠f.want
 |k,[],hs,f,h=>by simp [fnds] at h
 |k,w::ws,[],f,h=>by simp [fnds] at h
 | k,w::ws,x::hs,f,h=>by
  rw [fnds] at h
  have hgo:f∈fnds (k+1) ws hs->∃i,f.loc=((k+i:Nat):Int)/\(w::ws)[i]?=some f.want/\(x::hs)[i]?=some f.have_/\f.have_≠f.want:=by intro h;obtain ⟨i,h1,h2,h3,h4⟩:=zlz (k+1) ws hs f h;exact ⟨i+1,by rw [h1];congr 1;omega,by simpa using h2,by simpa using h3,h4⟩
  split at h
  ·rename_i hne;rcases List.mem_cons.1 h with rfl|h
   ·exact ⟨0,by simp,rfl,rfl,hne⟩
   ·exact hgo h
  ·exact hgo h
theorem zra {x:Img} {p:Plan} (h:(cdone x p).2=0):(jcommit x.disk x.jour p).2.2=0/\(cdone x p).1= { x with disk:=(jcommit x.disk x.jour p).1,jour:=(jcommit x.disk x.jour p).2.1 } :=by
 unfold cdone at h ⊢;split at h
 ·rename_i h1;exact absurd h h1
 ·rename_i h1;rw [if_neg h1];exact ⟨by simpa using h1,rfl⟩
open Go Go.Proofs
theorem zhP {d:Disk} {by_:Int} :∀ (l:List Int) {p:Plan},DP d p->(shareK d by_ l p).2=0->∀ {b:Int},b<87\/95<=b->plook d (shareK d by_ l p).1 b=plook d p b
 | [],p,hd,h,b,hb=>rfl
 | k::r,p,hd,h,b,hb=>by
  rw [shareK] at h ⊢;by_cases he:(radd d p k by_).2=0
  ·rw [if_neg (by omega)] at h ⊢;rw [zhP r (hd.radd k by_) h hb,zbz hd he hb]
  ·rw [if_pos he] at h;exact absurd h he
theorem zkz {d:Disk} {p:Plan} {t by_:Int} (h:(share d p t by_).2=0):(reach d p t).2=0/\(shareK d by_ (reach d p t).1 p).2=0/\share d p t by_=shareK d by_ (reach d p t).1 p:=by
 unfold share at h ⊢;split at h
 ·rename_i h1;exact absurd h h1
 rename_i h1;rw [if_neg h1];split at h
 ·rename_i h2;exact absurd h h2
 rename_i h2;rw [if_neg h2];exact ⟨by simpa using h1,by simpa using h2,rfl⟩
theorem zd3 {d:Disk} {p:Plan} {t by_:Int} (hd:DP d p) (h:(share d p t by_).2=0) {b:Int} (hb:b<87\/95<=b):plook d (share d p t by_).1 b=plook d p b:=by obtain ⟨_,h2,h3⟩:=zkz h;rw [h3];exact zhP _ hd h2 hb
theorem zkA {d:Disk} {p:Plan} {g:Geom} (h:(rtake d p g).2.2=0):(rfind d p g).2=0/\(radd d p (rfind d p g).1 1).2=0/\rtake d p g=((radd d p (rfind d p g).1 1).1,(rfind d p g).1,0):=by
 unfold rtake at h ⊢;split at h
 ·rename_i h1;exact absurd h h1
 rename_i h1;rw [if_neg h1];split at h
 ·rename_i h2;exact absurd h h2
 rename_i h2;rw [if_neg h2];exact ⟨by simpa using h1,by simpa using h2,rfl⟩
theorem ze1 {d:Disk} {p:Plan} {g:Geom} (hd:DP d p) (h:(rtake d p g).2.2=0) {b:Int} (hb:b<87\/95<=b):plook d (rtake d p g).1 b=plook d p b:=by obtain ⟨_,h2,h3⟩:=zkA h;rw [h3];exact zbz hd h2 hb
theorem zeG {d:Disk} {p:Plan} {a t:Int} (h:(ecopy d p a t).2=0):zG a=true/\zG t=true/\(plook d p (96+2*a)).2=0/\(pset p (96+2*t) (plook d p (96+2*a)).1).2=0/\
  (plook d (pset p (96+2*t) (plook d p (96+2*a)).1).1 (97+2*a)).2=0/\
  (pset (pset p (96+2*t) (plook d p (96+2*a)).1).1 (97+2*t) (plook d (pset p (96+2*t) (plook d p (96+2*a)).1).1 (97+2*a)).1).2=0/\
  ecopy d p a t=((pset (pset p (96+2*t) (plook d p (96+2*a)).1).1 (97+2*t) (plook d (pset p (96+2*t) (plook d p (96+2*a)).1).1 (97+2*a)).1).1,0):=by
 unfold ecopy at h ⊢;split at h
 ·exact absurd h (by simp)
 rename_i h1;rw [if_neg h1];simp only [not_or,Bool.not_eq_false] at h1;simp only [zbp,Int.add_zero,Int.zero_add] at h ⊢;rw [show 96+2*a+1=97+2*a by omega,show 96+2*t+1=97+2*t by omega] at h ⊢;split at h
 ·rename_i h2;exact absurd h h2
 rename_i h2;rw [if_neg h2];split at h
 ·rename_i h3;exact absurd h h3
 rename_i h3;rw [if_neg h3];split at h
 ·rename_i h4;exact absurd h h4
 rename_i h4;rw [if_neg h4];split at h
 ·rename_i h5;exact absurd h h5
 rename_i h5;rw [if_neg h5];exact ⟨h1.1,h1.2,by simpa using h2,by simpa using h3,by simpa using h4,by simpa using h5,rfl⟩
theorem zoA {d:Disk} {p:Plan} {a t:Int} (hd:DP d p) (h:(ecopy d p a t).2=0) (hne:a≠t) (b:Int):
  plook d (ecopy d p a t).1 b=if b=96+2*t then plook d p (96+2*a) else if b=97+2*t then plook d p (97+2*a) else plook d p b:=by
 obtain ⟨h1,h2,h3,h4,h5,h6,h7⟩:=zeG h;have hd2:DP d (pset p (96+2*t) (plook d p (96+2*a)).1).1:=⟨hd.d,zbU hd.p⟩
 have hv:∀b,plook d (pset p (96+2*t) (plook d p (96+2*a)).1).1 b=if b=96+2*t then plook d p (96+2*a) else plook d p b:=by
  intro b;rw [za3 h4 hd.plen];split
  ·exact Prod.ext rfl h3.symm
  ·rfl
 rw [h7];simp only;have e5:plook d (pset p (96+2*t) (plook d p (96+2*a)).1).1 (97+2*a)=plook d p (97+2*a):=by rw [hv,if_neg (by omega)]
 rw [e5] at h5;rw [za3 h6 hd2.plen,e5,hv b];by_cases e:b=97+2*t
 ·have hne:¬b=96+2*t:=by omega
  rw [if_pos e,if_neg hne,if_pos e];exact Prod.ext rfl h5.symm
 ·rw [if_neg e,if_neg e]
theorem zrb {l:Txt} (h:l.all nameB=true):cutZ l=l:=by
 rcases List.eq_nil_or_concat l with rfl|⟨l',c,rfl⟩
 ·rfl
 ·rw [List.concat_eq_append] at h ⊢;refine zfT l' c ?_;rintro rfl;simp [nameB] at h
theorem zpN (l:Txt):∀n,cutZ (l++List.replicate n 0)=cutZ l
 |0=>by simp
 |n+1=>by rw [List.replicate_succ',<-List.append_assoc,zgL,zpN l n]
theorem zxw {s:Snp} (h:(snpB s).2=true) (h0:0<=s.id) (h1:s.id<=4294967295):(snpB s).1.length=16/\snpT (snpB s).1=s/\snpOk (snpB s).1=true:=by
 suffices hh:(snpB s).1.length=16/\snpT (snpB s).1=s by refine ⟨hh.1,hh.2,?_⟩;unfold snpOk;rw [hh.2,h];simp
 unfold snpB at h ⊢;split at h
 ·rename_i hz;rw [if_pos hz];refine ⟨by simp [z16],?_⟩;unfold snpT;rw [if_pos rfl];obtain ⟨a,b,c⟩:=s;simp only at hz;obtain ⟨rfl,rfl,rfl⟩:=hz;rfl
 rename_i hz;rw [if_neg hz];split at h
 ·exact absurd h (by simp)
 rename_i hc;rw [if_neg hc];simp only [not_or,Bool.not_eq_false] at hc;obtain ⟨hi,hn,hk⟩:=hc;obtain ⟨hk0,hk1⟩:=hostOk_iff.1 hk;obtain ⟨n1,n2,n3⟩:=zeD hn;have l1:=zK s.id.toNat 4;have l2:=zK s.l1.toNat 2;simp only;refine ⟨by simp only [List.length_append,l1,l2,n1,List.length_cons,List.length_nil],?_⟩
 have e1:(putN s.id.toNat 4++putN s.l1.toNat 2++ [0,0]++(nameS s.name).1).take 4=putN s.id.toNat 4:=by rw [List.append_assoc,List.append_assoc,List.take_append_of_le_length (by omega),List.take_of_length_le (by omega)]
 have e2:((putN s.id.toNat 4++putN s.l1.toNat 2++ [0,0]++(nameS s.name).1).drop 4).take 2=putN s.l1.toNat 2:=by rw [List.append_assoc,List.append_assoc,List.drop_append_of_le_length (by omega),List.drop_of_length_le (by omega),List.nil_append,List.take_append_of_le_length (by omega),List.take_of_length_le (by omega)]
 have e3:(putN s.id.toNat 4++putN s.l1.toNat 2++ [0,0]++(nameS s.name).1).drop 8=(nameS s.name).1:=by
  have hl:(putN s.id.toNat 4++putN s.l1.toNat 2++ [0,0]).length=8:=by simp only [List.length_append,l1,l2,List.length_cons,List.length_nil]
  rw [List.drop_append_of_le_length (by omega),List.drop_of_length_le (by omega),List.nil_append]
 have ht:takeN (putN s.id.toNat 4)=s.id.toNat:=by
  rw [zd1,Nat.mod_eq_of_lt];have:(256:Nat) ^ 4=4294967296:=by decide
  omega
 have ht2:takeN (putN s.l1.toNat 2)=s.l1.toNat:=by
  rw [zd1,Nat.mod_eq_of_lt];have:(256:Nat) ^ 2=65536:=by decide
  omega
 have hne:(putN s.id.toNat 4++putN s.l1.toNat 2++ [0,0]++(nameS s.name).1)≠z16:=by
  intro hz16
  have hz4:takeN (putN s.id.toNat 4)=0:=by rw [<-e1,hz16];decide
  omega
 unfold snpT;rw [if_neg hne,snpR,e1,e2,e3,ht,ht2]
 have hall:s.name.all nameB=true:=by unfold zaq at hn;rw [Bool.and_eq_true] at hn;exact hn.1
 have hname:(zdY (nameS s.name).1).1=s.name:=by unfold zdY;rw [if_neg (by omega),n3,zpN,zrb hall,if_pos hn]
 rw [hname,Int.toNat_of_nonneg h0,Int.toNat_of_nonneg hk0]
theorem zmX {α:Type} {l:List α} {i:Nat} {u:α} (h:l[i]?=some u) (v:α):l=l.take i++u::l.drop (i+1)/\l.set i v=l.take i++v::l.drop (i+1):=by
 obtain ⟨hi,hu⟩:=List.getElem?_eq_some_iff.1 h;constructor
 ·rw [<-hu,List.getElem_cons_drop,List.take_append_drop]
 ·rw [List.set_eq_take_append_cons_drop,if_pos hi]
theorem zmY {d:Disk} {p:Plan} :∀ (m i:Nat) (l:List Snp),(snapsK d p m i l).2=0→(∀j,i≤j→j<i+m→(plook d p (2+(j / 4:Nat))).2=0∧snpOk (slotB (plook d p (2+(j / 4:Nat))).1 j)=true)∧
  (snapsK d p m i l).1=l++(List.range m).map (fun j=>snpT (slotB (plook d p (2+((i+j) / 4:Nat))).1 (i+j)))
 |0,i,l,h=>⟨fun j h1 h2=>by omega,by simp [snapsK]⟩
 | m +1,i,l,h=>by
  rw [snapsK] at h ⊢
  by_cases he:(plook d p (2+(i / 4:Nat))).2=0
  ·rw [if_neg (by omega)] at h ⊢
   cases ho:snpOk (slotB (plook d p (2+(i / 4:Nat))).1 i) with
   |false=>
    rw [ho,if_neg (by decide)] at h
    cases h
   | true=>
    rw [ho,if_pos rfl] at h
    rw [if_pos rfl]
    obtain ⟨h1,h2⟩:=zmY m (i+1) _ h
    refine ⟨fun j hj1 hj2=>?_,?_⟩
    ·by_cases e:j=i
     ·subst e;exact ⟨he,ho⟩
     ·exact h1 j (by omega) (by omega)
    ·have hm:(List.range m).map (fun j=>snpT (slotB (plook d p (2+((i+1+j) / 4:Nat))).1 (i+1+j)))=(List.range m).map ((fun j=>snpT (slotB (plook d p (2+((i+j) / 4:Nat))).1 (i+j))) ∘ Nat.succ):=by
      refine List.map_congr_left (fun j _=>?_)
      simp only [Function.comp]
      rw [show i+1+j=i+Nat.succ j by omega]
     rw [h2,List.range_succ_eq_map,List.map_cons,List.map_map,List.append_assoc,List.singleton_append,hm,Nat.add_zero]
  ·rw [if_pos he] at h
   exact absurd h he
theorem zmZ {d:Disk} {p:Plan} :∀ (m i:Nat) (l:List Snp),(∀j,i<=j->j<i+m->(plook d p (2+(j / 4:Nat))).2=0/\snpOk (slotB (plook d p (2+(j / 4:Nat))).1 j)=true)->(snapsK d p m i l).2=0
 |0,i,l,h=>rfl
 |m+1,i,l,h=>by obtain ⟨h1,h2⟩:=h i (Nat.le_refl _) (by omega);rw [snapsK,if_neg (by omega),if_pos h2];exact zmZ m (i+1) _ (λj hj1 hj2=>h j (by omega) (by omega))
theorem zpO {d:Disk} {p:Plan} (h:(snaps d p).2=0):(∀j,j<8->(plook d p (2+(j / 4:Nat))).2=0/\snpOk (slotB (plook d p (2+(j / 4:Nat))).1 j)=true)/\
  (snaps d p).1=(List.range 8).map (λj=>snpT (slotB (plook d p (2+(j / 4:Nat))).1 j)):=by obtain ⟨h1,h2⟩:=zmY 8 0 [] h;refine ⟨λj hj=>h1 j (Nat.zero_le _) (by omega),?_⟩;unfold snaps;rw [h2,List.nil_append];refine List.map_congr_left (λj _=>?_);rw [Nat.zero_add]
theorem zpP (s:Txt) (i:Nat):slotB s i=(s.drop (i % 4*16)).take 16:=by unfold slotB;rw [List.drop_take];congr 1;omega
theorem ztt {s b:Txt} {i j:Nat} (hs:s.length=64) (hb:b.length=16):slotB (lay s (i % 4*16) b) j=if j % 4=i % 4 then b else slotB s j:=by
 rw [zpP,zpP];split
 ·rename_i e;rw [e];have:=zlv (b:=s) (s:=b) (k:=i % 4*16) (by omega);rw [hb] at this;exact this
 ·rename_i e;refine zjc (by omega) ?_;omega
theorem zd4 {d:Disk} {p p':Plan} (h:∀b:Int,b=2\/b=3->plook d p' b=plook d p b):snaps d p'=snaps d p:=by
 have hg:∀ (m i:Nat) (l:List Snp),m+i<=8->snapsK d p' m i l=snapsK d p m i l:=by
  intro m;induction m with
  |zero=>intro i l _;rfl
  |succ m ih=>
   intro i l hm;rw [snapsK,snapsK,h _ (by omega),ih (i+1) _ (by omega)]
 exact hg 8 0 [] (by omega)
theorem zhQ {d:Disk} {p:Plan} {i:Int} {s:Snp} (h:(setsnap d p i s).2=0):0<=i/\i<8/\(snpB s).2=true/\(zcq d p (2+i / 4) (i % 4*16) (snpB s).1).2=0/\setsnap d p i s=zcq d p (2+i / 4) (i % 4*16) (snpB s).1:=by
 unfold setsnap at h ⊢;split at h
 ·exact absurd h (by simp)
 rename_i h1;rw [if_neg h1];split at h
 ·exact absurd h (by simp)
 rename_i h2;rw [if_neg h2];exact ⟨by omega,by omega,by simpa using h2,h,rfl⟩
theorem ze2 {d:Disk} {p:Plan} {i:Int} {s:Snp} (hd:DP d p) (h:(setsnap d p i s).2=0) {b:Int} (hb:b<2\/4<=b):plook d (setsnap d p i s).1 b=plook d p b:=by obtain ⟨h1,h2,h3,h4,h5⟩:=zhQ h;rw [h5,zcn h4 hd.plen,if_neg (by omega)]
theorem zgV {d:Disk} {p:Plan} {i:Nat} {s:Snp} (hd:DP d p) (h0:(snaps d p).2=0) (h:(setsnap d p i s).2=0) (hs0:0<=s.id) (hs1:s.id<=4294967295):
  snaps d (setsnap d p i s).1=((snaps d p).1.set i s,0):=by
 obtain ⟨h1,h2,h3,h4,h5⟩:=zhQ h;obtain ⟨b1,b2,b3⟩:=zxw h3 hs0 hs1;obtain ⟨g1,g2⟩:=zpO h0;obtain ⟨B,hB⟩:∃B,B=(snpB s).1:=⟨_,rfl⟩
 rw [<-hB] at b1 b2 b3 h4 h5;have hlk:=(zfY h4).1;have h64:=zch hd hlk
 have hv:∀j:Nat,j<8->plook d (setsnap d p i s).1 (2+(j / 4:Nat))=if j / 4=i / 4 then (lay (plook d p (2+(j / 4:Nat))).1 (i % 4*16) B,0) else plook d p (2+(j / 4:Nat)):=by
  intro j hj;rw [h5,zcn h4 hd.plen];by_cases e:j / 4=i / 4
  ·rw [if_pos (by omega),if_pos e,show (2:Int)+(i:Int) / 4=2+(j / 4:Nat) by omega,show ((i:Int) % 4*16).toNat=i % 4*16 by omega]
  ·rw [if_neg (by omega),if_neg e]
 have hsl:∀j:Nat,j<8->(plook d (setsnap d p i s).1 (2+(j / 4:Nat))).2=0/\slotB (plook d (setsnap d p i s).1 (2+(j / 4:Nat))).1 j=if j=i then B else slotB (plook d p (2+(j / 4:Nat))).1 j:=by
  intro j hj;rw [hv j hj];by_cases e:j / 4=i / 4
  ·rw [if_pos e];have he:(2:Int)+(j / 4:Nat)=2+(i:Int) / 4:=by omega
   refine ⟨rfl,?_⟩;rw [ztt (by rw [he];exact h64) b1];by_cases e2:j=i
   ·rw [if_pos (by omega),if_pos e2]
   ·rw [if_neg (by omega),if_neg e2]
  ·rw [if_neg e,if_neg (by omega)];exact ⟨(g1 j hj).1,rfl⟩
 have hz:(snaps d (setsnap d p i s).1).2=0:=by
  refine zmZ 8 0 [] (λj _ hj=>?_);obtain ⟨k1,k2⟩:=hsl j (by omega);refine ⟨k1,?_⟩;rw [k2];split
  ·exact b3
  ·exact (g1 j (by omega)).2
 obtain ⟨_,k2⟩:=zpO hz;refine Prod.ext ?_ hz;show (snaps d (setsnap d p i s).1).1=(snaps d p).1.set i s;rw [k2,g2];apply List.ext_getElem?;intro j;rw [List.getElem?_set];rcases Nat.lt_or_ge j 8 with hj|hj
 ·rw [List.getElem?_map,List.getElem?_map,List.getElem?_range hj,List.length_map,List.length_range];simp only [Option.map_some];rw [(hsl j hj).2];by_cases e:j=i
  ·subst e;rw [if_pos rfl,if_pos rfl,if_pos hj,b2]
  ·rw [if_neg e,if_neg (λh=>e h.symm)]
 ·have hne:¬i=j:=by omega
  rw [if_neg hne,List.getElem?_eq_none (by simp;omega),List.getElem?_eq_none (by simp;omega)]
theorem ztu {r:Root} (hk:zG r.l1=true) (h0:0<=r.next) (h1:r.next<=4294967295):rootT (zbl r)=(r,0):=by
 obtain ⟨hk0,hk1⟩:=hostOk_iff.1 hk;have l1:=zK r.l1.toNat 2;have l2:=zK r.next.toNat 4;have l3:=zfs r;have l4:=zcU (sumOf 0 (zaQ r))
 obtain ⟨Z,hZ⟩:∃Z,zbl r=zaQ r++zfg (sumOf 0 (zaQ r))++Z:=by unfold zbl padR padS;rw [if_neg (by rw [List.length_append,l3,l4];decide)];exact ⟨_,rfl⟩
 have e1:(zbl r).take 10=zaQ r:=by rw [hZ,List.append_assoc,List.take_append_of_le_length (by omega),List.take_of_length_le (by omega)]
 have e2:((zbl r).take 14).drop 10=zfg (sumOf 0 (zaQ r)):=by rw [hZ,List.take_append_of_le_length (by rw [List.length_append];omega),List.take_of_length_le (by rw [List.length_append];omega),List.drop_append_of_le_length (by omega),List.drop_of_length_le (by omega),List.nil_append]
 have e3:(zbl r).take 4=magicR:=by rw [<-show ((zbl r).take 10).take 4=(zbl r).take 4 by rw [List.take_take];rfl,e1,zaQ,List.append_assoc,List.take_append_of_le_length (by decide)];decide
 have e4:((zbl r).drop 4).take 2=putN r.l1.toNat 2:=by
  have:((zbl r).drop 4).take 2=((zaQ r).drop 4).take 2:=by rw [<-e1,List.drop_take,List.take_take];rfl
  rw [this,zaQ,List.append_assoc,List.drop_append_of_le_length (by decide),show magicR.drop 4= [] by decide,List.nil_append,List.take_append_of_le_length (by omega),List.take_of_length_le (by omega)]
 have e5:((zbl r).drop 6).take 4=putN r.next.toNat 4:=by
  have:((zbl r).drop 6).take 4=((zaQ r).drop 6).take 4:=by rw [<-e1,List.drop_take,List.take_take];rfl
  have hl:(magicR++putN r.l1.toNat 2).length=6:=by rw [List.length_append,l1];decide
  rw [this,zaQ,List.drop_append_of_le_length (by omega),List.drop_of_length_le (by omega),List.nil_append,List.take_of_length_le (by omega)]
 have hof:zb5 (zbl r)=r:=by
  unfold zb5;rw [e4,e5,zd1,zd1];have h2:(256:Nat) ^ 2=65536:=by decide
  have h4:(256:Nat) ^ 4=4294967296:=by decide
  rw [Nat.mod_eq_of_lt (by omega),Nat.mod_eq_of_lt (by omega),Int.toNat_of_nonneg hk0,Int.toNat_of_nonneg h0]
 unfold rootT;rw [if_neg (λh=>h e3),e1,e2,if_neg (λh=>h rfl),hof,if_neg (by rw [hk];simp)]
theorem zhR {p:Plan} {r:Root} (h:(zak p r).2=0):zG r.l1=true/\(pset p 1 (zbl r)).2=0/\zak p r=pset p 1 (zbl r):=by
 unfold zak at h ⊢;split at h
 ·exact absurd h (by simp)
 rename_i h1;rw [if_neg h1];exact ⟨by simpa using h1,h,rfl⟩
theorem ze3 {d:Disk} {p:Plan} {r:Root} (hd:DP d p) (h:(zak p r).2=0) (b:Int):plook d (zak p r).1 b=if b=1 then (zbl r,0) else plook d p b:=by obtain ⟨h1,h2,h3⟩:=zhR h;rw [h3,za3 h2 hd.plen]
theorem zje {d:Disk} {p:Plan} {r:Root} (hd:DP d p) (h:(zak p r).2=0) (h0:0<=r.next) (h1:r.next<=4294967295):ze d (zak p r).1=(r,0):=by unfold ze;rw [ze3 hd h,if_pos rfl,if_neg (by simp)];exact ztu (zhR h).1 h0 h1
theorem ze4 {d:Disk} {p p':Plan} (h:plook d p' 1=plook d p 1):ze d p'=ze d p:=by unfold ze;rw [h]
structure Made (x:Img) (n:Txt) (i:Nat) (T:Plan×Int×Int) (C S P Q:Plan×Int):Prop where
 whole:x.broken=false
 root:(ze x.disk p0).2=0
 snaps:(snaps x.disk p0).2=0
 named:zaq n=true
 other:(Aw.snaps x.disk p0).1.any (λs=>s.id !=0&&s.name==n)=false
 at_:idxP (λs=>s.id==0) (Aw.snaps x.disk p0).1 0=i
 next0:0<(ze x.disk p0).1.next
 next1:(ze x.disk p0).1.next<4294967295
 hT:T=rtake x.disk p0 x.geom
 hT2:T.2.2=0
 hC:C=ecopy x.disk T.1 (ze x.disk p0).1.l1 T.2.1
 hC2:C.2=0
 hS:S=share x.disk C.1 (ze x.disk p0).1.l1 1
 hS2:S.2=0
 hP:P=setsnap x.disk S.1 i ⟨(ze x.disk p0).1.next,T.2.1,n⟩
 hP2:P.2=0
 hQ:Q=zak P.1 ⟨(ze x.disk p0).1.l1,(ze x.disk p0).1.next+1⟩
 hQ2:Q.2=0
 img:(zag x n).1=(cdone x Q.1).1
 err:(zag x n).2.2=(cdone x Q.1).2
 num:(cdone x Q.1).2=0->(zag x n).2.1=(ze x.disk p0).1.next
theorem zlA (x:Img) (n:Txt):((zag x n).1=x/\(zag x n).2.2≠0)\/∃i T C S P Q,Made x n i T C S P Q:=by
 have hr:=(ze0 x.disk p0).2.2;by_cases h1:x.broken=true
 ·left;unfold zag;rw [if_pos h1];exact ⟨rfl,by simp⟩
 by_cases h2:(ze x.disk p0).2≠0
 ·left;unfold zag;rw [if_neg h1,if_pos h2];exact ⟨rfl,h2⟩
 by_cases h3:(snaps x.disk p0).2≠0
 ·left;unfold zag;rw [if_neg h1,if_neg h2,if_pos h3];exact ⟨rfl,h3⟩
 by_cases h4:zaq n=false
 ·left;unfold zag;rw [if_neg h1,if_neg h2,if_neg h3,if_pos h4];exact ⟨rfl,by simp⟩
 by_cases h5:(snaps x.disk p0).1.any (λs=>s.id !=0&&s.name==n)=true
 ·left;unfold zag;rw [if_neg h1,if_neg h2,if_neg h3,if_neg h4,if_pos h5];exact ⟨rfl,by simp⟩
 by_cases h6:idxP (λs:Snp=>s.id==0) (snaps x.disk p0).1 0<0
 ·left;unfold zag;rw [if_neg h1,if_neg h2,if_neg h3,if_neg h4,if_neg h5,if_pos h6];exact ⟨rfl,by simp⟩
 by_cases h7:(ze x.disk p0).1.next=0\/(ze x.disk p0).1.next=4294967295
 ·left;unfold zag;rw [if_neg h1,if_neg h2,if_neg h3,if_neg h4,if_neg h5,if_neg h6,if_pos h7];exact ⟨rfl,by simp⟩
 obtain ⟨i,hi⟩:∃i:Nat,idxP (λs:Snp=>s.id==0) (snaps x.disk p0).1 0=i:=⟨(idxP (λs:Snp=>s.id==0) (snaps x.disk p0).1 0).toNat,by omega⟩
 obtain ⟨T,hT⟩:∃T,T=rtake x.disk p0 x.geom:=⟨_,rfl⟩
 have e0:zag x n=zcI x n (ze x.disk p0).1 i T:=by unfold zag;rw [if_neg h1,if_neg h2,if_neg h3,if_neg h4,if_neg h5,if_neg h6,if_neg h7,hi,<-hT]
 by_cases h8:T.2.2≠0
 ·left;rw [e0,zcI,if_pos h8];exact ⟨rfl,h8⟩
 obtain ⟨C,hC⟩:∃C,C=ecopy x.disk T.1 (ze x.disk p0).1.l1 T.2.1:=⟨_,rfl⟩
 rw [zcI,if_neg h8,<-hC] at e0;by_cases h9:C.2≠0
 ·left;rw [e0,zdz,if_pos h9];exact ⟨rfl,h9⟩
 obtain ⟨S,hS⟩:∃S,S=share x.disk C.1 (ze x.disk p0).1.l1 1:=⟨_,rfl⟩
 rw [zdz,if_neg h9,<-hS] at e0;by_cases h10:S.2≠0
 ·left;rw [e0,zdy,if_pos h10];exact ⟨rfl,h10⟩
 obtain ⟨P,hP⟩:∃P,P=setsnap x.disk S.1 i ⟨(ze x.disk p0).1.next,T.2.1,n⟩:=⟨_,rfl⟩
 rw [zdy,if_neg h10,<-hP] at e0;by_cases h11:P.2≠0
 ·left;rw [e0,zdx,if_pos h11];exact ⟨rfl,h11⟩
 obtain ⟨Q,hQ⟩:∃Q,Q=zak P.1 ⟨(ze x.disk p0).1.l1,(ze x.disk p0).1.next+1⟩:=⟨_,rfl⟩
 rw [zdx,if_neg h11,<-hQ] at e0;by_cases h12:Q.2≠0
 ·left;rw [e0,zdw,if_pos h12];exact ⟨rfl,h12⟩
 rw [zdw,if_neg h12] at e0;refine .inr ⟨i,T,C,S,P,Q,by simpa using h1,by simpa using h2,by simpa using h3,by simpa using h4,by simpa using h5,hi,by omega,by omega,hT,by simpa using h8,hC,by simpa using h9,hS,by simpa using h10,hP,by simpa using h11,hQ,by simpa using h12,?_,?_,λh=>?_⟩
 ·rw [e0];split<;>rfl
 ·rw [e0];split
  ·rfl
  ·rename_i h;simp only;omega
 ·rw [e0,if_neg (by omega)]
theorem zkB {x:Img} {q:Plan} (hx:ImgF x) (hq:pfit q=true) (h:(cdone x q).2=0) {b:Int} (hb:b<6\/87<=b):plook (cdone x q).1.disk p0 b=plook x.disk q b:=by obtain ⟨h1,h2⟩:=zra h;rw [h2,zky];exact zmT hx.disk hq h1 hb
theorem Made.view {x:Img} {n:Txt} {i:Nat} {T:Plan×Int×Int} {C S P Q:Plan×Int} (hx:ImgF x) (hm:Made x n i T C S P Q):pfit Q.1=true/\Aw.snaps x.disk Q.1=((Aw.snaps x.disk p0).1.set i ⟨(ze x.disk p0).1.next,T.2.1,n⟩,0)/\ze x.disk Q.1=(⟨(ze x.disk p0).1.l1,(ze x.disk p0).1.next+1⟩,0):=by
 have hn0:=hm.next0;have hn1:=hm.next1;have hd0:DP x.disk p0:=⟨hx.disk,zaw⟩
 have hd1:DP x.disk T.1:=by rw [hm.hT];exact hd0.rtake _
 have hd2:DP x.disk C.1:=by rw [hm.hC];exact hd1.ecopy _ _
 have hd3:DP x.disk S.1:=by rw [hm.hS];exact hd2.share _ _
 have hd4:DP x.disk P.1:=by rw [hm.hP];exact hd3.setsnap _ _
 have hd5:pfit Q.1=true:=by rw [hm.hQ];exact zd2 hd4.p
 have v1:∀b:Int,b<6->plook x.disk S.1 b=plook x.disk p0 b:=by
  intro b hb;have e1:plook x.disk S.1 b=plook x.disk C.1 b:=by rw [hm.hS];exact zd3 hd2 (by rw [<-hm.hS];exact hm.hS2) (by omega)
  have e2:plook x.disk C.1 b=plook x.disk T.1 b:=by
   have hc:=hm.hC2;rw [hm.hC] at hc ⊢;obtain ⟨c1,c2,c3,c4,c5,c6,c7⟩:=zeG hc;have:=hostOk_iff.1 c2;have hdd:DP x.disk (pset T.1 (96+2*T.2.1) (plook x.disk T.1 (96+2*(ze x.disk p0).1.l1)).1).1:=⟨hd1.d,zbU hd1.p⟩
   rw [c7];simp only;rw [za3 c6 hdd.plen,if_neg (by omega),za3 c4 hd1.plen,if_neg (by omega)]
  have e3:plook x.disk T.1 b=plook x.disk p0 b:=by rw [hm.hT];exact ze1 hd0 (by rw [<-hm.hT];exact hm.hT2) (by omega)
  rw [e1,e2,e3]
 have hs1:Aw.snaps x.disk S.1=Aw.snaps x.disk p0:=zd4 (λb hb=>v1 b (by omega))
 have hs2:Aw.snaps x.disk P.1=((Aw.snaps x.disk p0).1.set i ⟨(ze x.disk p0).1.next,T.2.1,n⟩,0):=by have hp:=hm.hP2;rw [hm.hP] at hp ⊢;rw [zgV hd3 (by rw [hs1];exact hm.snaps) hp (by simp only;omega) (by simp only;omega),hs1]
 have hs3:Aw.snaps x.disk Q.1=Aw.snaps x.disk P.1:=zd4 (λb hb=>by have hq:=hm.hQ2;rw [hm.hQ] at hq ⊢;rw [ze3 hd4 hq,if_neg (by omega)])
 refine ⟨hd5,by rw [hs3,hs2],?_⟩;have hq:=hm.hQ2;rw [hm.hQ] at hq ⊢;exact zje hd4 hq (by simp only;omega) (by simp only;omega)
structure Gone (x:Img) (id:Int) (i:Nat) (u:Snp) (S A P:Plan×Int):Prop where
 whole:x.broken=false
 root:(ze x.disk p0).2=0
 snaps:(snaps x.disk p0).2=0
 find:sfind (Aw.snaps x.disk p0).1 id=i
 at_:(Aw.snaps x.disk p0).1[i]?=some u
 hS:S=share x.disk p0 u.l1 (-1)
 hS2:S.2=0
 hA:A=radd x.disk S.1 u.l1 (-1)
 hA2:A.2=0
 hP:P=setsnap x.disk A.1 i snp0
 hP2:P.2=0
 is:zbB x id=cdone x P.1
theorem ztv {d:Disk} (h:(sbeg d).2.2=0):(ze d p0).2=0/\(snaps d p0).2=0/\(sbeg d).2.1=(snaps d p0).1:=by
 unfold sbeg at h ⊢;simp only at h ⊢;by_cases hr:(ze d p0).2=0
 ·rw [if_neg (by omega)] at h ⊢;exact ⟨hr,h,rfl⟩
 ·rw [if_pos hr] at h;exact absurd h hr
theorem zlB (x:Img) (id:Int):((zbB x id).1=x/\(zbB x id).2≠0)\/∃i u S A P,Gone x id i u S A P:=by
 by_cases h1:x.broken=true
 ·left;unfold zbB;rw [if_pos h1];exact ⟨rfl,by simp⟩
 by_cases h2:(sbeg x.disk).2.2≠0
 ·left;unfold zbB;rw [if_neg h1,if_pos h2];exact ⟨rfl,h2⟩
 obtain ⟨hr,hs,hbs⟩:=ztv (d:=x.disk) (by simpa using h2);by_cases h3:sfind (snaps x.disk p0).1 id<0
 ·left;unfold zbB;rw [if_neg h1,if_neg h2,hbs,if_pos h3];exact ⟨rfl,by simp⟩
 obtain ⟨u,hu,hat,hlt,hJn⟩:=zlx (l:=(snaps x.disk p0).1) (id:=id) (by omega);obtain ⟨i,hi⟩:∃i:Nat,i=(sfind (snaps x.disk p0).1 id).toNat:=⟨_,rfl⟩
 rw [<-hi] at hu hlt hJn;obtain ⟨S,hS⟩:∃S,S=share x.disk p0 u.l1 (-1):=⟨_,rfl⟩
 have e0:zbB x id=sdelA x i u.l1 S:=by unfold zbB;rw [if_neg h1,if_neg h2,hbs,if_neg h3,hat,hJn,<-hS]
 by_cases h4:S.2≠0
 ·left;rw [e0,sdelA,if_pos h4];exact ⟨rfl,h4⟩
 obtain ⟨A,hA⟩:∃A,A=radd x.disk S.1 u.l1 (-1):=⟨_,rfl⟩
 rw [sdelA,if_neg h4,<-hA] at e0;by_cases h5:A.2≠0
 ·left;rw [e0,sdelB,if_pos h5];exact ⟨rfl,h5⟩
 obtain ⟨P,hP⟩:∃P,P=setsnap x.disk A.1 i snp0:=⟨_,rfl⟩
 rw [sdelB,if_neg h5,<-hP] at e0;by_cases h6:P.2≠0
 ·left;rw [e0,sdelC,if_pos h6];exact ⟨rfl,h6⟩
 rw [sdelC,if_neg h6] at e0;exact .inr ⟨i,u,S,A,P,by simpa using h1,hr,hs,hJn,hu,hS,by simpa using h4,hA,by simpa using h5,hP,by simpa using h6,e0⟩
theorem Gone.view {x:Img} {id:Int} {i:Nat} {u:Snp} {S A P:Plan×Int} (hx:ImgF x) (hm:Gone x id i u S A P):pfit P.1=true/\Aw.snaps x.disk P.1=((Aw.snaps x.disk p0).1.set i snp0,0)/\ze x.disk P.1=ze x.disk p0:=by
 have hd0:DP x.disk p0:=⟨hx.disk,zaw⟩
 have hd1:DP x.disk S.1:=by rw [hm.hS];exact hd0.share _ _
 have hd2:DP x.disk A.1:=by rw [hm.hA];exact hd1.radd _ _
 have hd3:DP x.disk P.1:=by rw [hm.hP];exact hd2.setsnap _ _
 have v:∀b:Int,b<6->plook x.disk A.1 b=plook x.disk p0 b:=by
  intro b hb;have e1:plook x.disk A.1 b=plook x.disk S.1 b:=by rw [hm.hA];exact zbz hd1 (by rw [<-hm.hA];exact hm.hA2) (by omega)
  have e2:plook x.disk S.1 b=plook x.disk p0 b:=by rw [hm.hS];exact zd3 hd0 (by rw [<-hm.hS];exact hm.hS2) (by omega)
  rw [e1,e2]
 have hs1:Aw.snaps x.disk A.1=Aw.snaps x.disk p0:=zd4 (λb hb=>v b (by omega));have hp:=hm.hP2;rw [hm.hP] at hp;refine ⟨hd3.p,?_,?_⟩
 ·rw [hm.hP,zgV hd2 (by rw [hs1];exact hm.snaps) hp (by decide) (by decide),hs1]
 ·rw [hm.hP];exact ze4 (by rw [ze2 hd2 hp (by omega),v 1 (by omega)])
structure Back (x:Img) (id:Int) (i:Nat) (u:Snp) (S A P:Plan×Int):Prop where
 whole:x.broken=false
 root:(ze x.disk p0).2=0
 snaps:(snaps x.disk p0).2=0
 find:sfind (Aw.snaps x.disk p0).1 id=i
 at_:(Aw.snaps x.disk p0).1[i]?=some u
 hS:S=share x.disk p0 u.l1 1
 hS2:S.2=0
 hA:A=share x.disk S.1 (ze x.disk p0).1.l1 (-1)
 hA2:A.2=0
 hP:P=ecopy x.disk A.1 u.l1 (ze x.disk p0).1.l1
 hP2:P.2=0
 is:(zbC x id).1=(cdone x P.1).1\/(zbC x id).1=zcf (cdone x P.1).1 64
theorem zlC (x:Img) (id:Int):(zbC x id).1=x\/∃i u S A P,Back x id i u S A P:=by
 by_cases h1:x.broken=true
 ·left;unfold zbC;rw [if_pos h1]
 by_cases h2:(sbeg x.disk).2.2≠0
 ·left;unfold zbC;rw [if_neg h1,if_pos h2]
 obtain ⟨hr,hs,hbs⟩:=ztv (d:=x.disk) (by simpa using h2);by_cases h3:sfind (snaps x.disk p0).1 id<0
 ·left;unfold zbC;rw [if_neg h1,if_neg h2,hbs,if_pos h3]
 obtain ⟨u,hu,hat,hlt,hJn⟩:=zlx (l:=(snaps x.disk p0).1) (id:=id) (by omega);obtain ⟨i,hi⟩:∃i:Nat,i=(sfind (snaps x.disk p0).1 id).toNat:=⟨_,rfl⟩
 rw [<-hi] at hu hlt hJn;obtain ⟨S,hS⟩:∃S,S=share x.disk p0 u.l1 1:=⟨_,rfl⟩
 have e0:zbC x id=srev0 x u.l1 (ze x.disk p0).1.l1 S:=by unfold zbC;rw [if_neg h1,if_neg h2,hbs,if_neg h3,hat,<-hS];rfl
 by_cases h4:S.2≠0
 ·left;rw [e0,srev0,if_pos h4]
 obtain ⟨A,hA⟩:∃A,A=share x.disk S.1 (ze x.disk p0).1.l1 (-1):=⟨_,rfl⟩
 rw [srev0,if_neg h4,<-hA] at e0;by_cases h5:A.2≠0
 ·left;rw [e0,srevA,if_pos h5]
 obtain ⟨P,hP⟩:∃P,P=ecopy x.disk A.1 u.l1 (ze x.disk p0).1.l1:=⟨_,rfl⟩
 rw [srevA,if_neg h5,<-hP] at e0;by_cases h6:P.2≠0
 ·left;rw [e0,srevB,if_pos h6]
 rw [srevB,if_neg h6,srevC] at e0;refine .inr ⟨i,u,S,A,P,by simpa using h1,hr,hs,hJn,hu,hS,by simpa using h4,hA,by simpa using h5,hP,by simpa using h6,?_⟩;rw [e0];split
 ·exact .inl rfl
 ·exact .inr rfl
end Go.Aw
