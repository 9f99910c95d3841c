/-
  Parts of the proof: ViewB, AuditA, SnapA, ShareA, SnapB, SnapC (short names; the readable texts lie in the repo, under wip).
-/
import Derived.Test.YtbmlikkofegdeaaGreatDoorPart31
import Derived.Test.YtbmlikkofegdeaaGreatDoorPart17
import Derived.Test.YtbmlikkofegdeaaGreatDoorPart27
import Derived.Test.YtbmlikkofegdeaaGreatDoorPart28
set_option maxRecDepth 100000
set_option maxHeartbeats 2000000
set_option linter.unusedSimpArgs false
set_option linter.unusedVariables false
namespace Go.Aw
open Go Go.Proofs
theorem ztK {b s:Txt} {k:Nat} (h:k+s.length≤b.length):((lay b k s).drop k).take s.length=s:=by
 have hl:(b.take k).length=k:=by rw [List.length_take];omega
 unfold lay
 rw [List.append_assoc,List.drop_append_of_le_length (by omega),List.drop_of_length_le (by omega),List.nil_append,List.take_append_of_le_length (by omega),List.take_of_length_le (by omega)]
theorem zrE {b s:Txt} {k m n:Nat} (h:k+s.length≤b.length) (ho:m+n≤k∨k+s.length≤m):((lay b k s).drop m).take n=(b.drop m).take n:=by
 unfold lay
 rcases ho with ho|ho
 ·have hl:(b.take k).length=k:=by rw [List.length_take];omega
  rw [List.append_assoc,List.drop_append_of_le_length (by omega),List.take_append_of_le_length (by rw [List.length_drop];omega),List.drop_take,List.take_take,Nat.min_eq_left (by omega)]
 ·have hl:(b.take k++s).length=k+s.length:=by rw [List.length_append,List.length_take];omega
  rw [List.drop_append,List.drop_of_length_le (by omega),List.nil_append,hl,List.drop_drop]
  congr 2
  omega
theorem zrF {s t:Txt} {a:Int} (h:(overS s a t).2=0):0≤a∧a.toNat+t.length≤s.length∧(overS s a t).1=lay s a.toNat t:=by
 unfold overS at h ⊢
 split at h
 ·exact absurd h (by simp)
 rename_i h1
 rw [if_neg h1]
 refine ⟨by omega,by omega,?_⟩
 unfold lay
 rw [show (a+(t.length:Int)).toNat=a.toNat+t.length by omega]
theorem zlh {l:List Int} {a:Int} {k:Nat} (h:pfind l a=k):l[k]?=some a:=by
 have hg:∀ (l:List Int) (n k:Nat),idxP (fun x=>x==a) l n=((n+k:Nat):Int)→l[k]?=some a:=by
  intro l
  induction l with
  |nil=>intro n k h;simp [idxP] at h;omega
  | cons y l ih=>
   intro n k h
   simp only [idxP] at h
   by_cases e:(y==a)=true
   ·simp only [e,if_true] at h
    have:k=0:=by omega
    subst this
    simpa using e
   ·simp only [e,if_false] at h
    cases k with
    |zero=>
     simp only [Bool.false_eq_true,if_false] at h
     rcases zcv (fun x=>x==a) l (n+1) with hb|hb
     ·rw [hb] at h;omega
     ·omega
    |succ k=>
     simp only [Bool.false_eq_true,if_false] at h
     simpa using ih (n+1) k (by rw [h];congr 1;omega)
 exact hg l 0 k (by rw [Nat.zero_add];exact h)
theorem zrG {l:List Int} {a b:Int} :pfind (l++ [a]) b=if 0≤pfind l b then pfind l b else if a=b then (l.length:Int) else -1:=by
 have hg:∀ (l:List Int) (n:Nat),idxP (fun x=>x==b) (l++ [a]) n=if 0≤idxP (fun x=>x==b) l n then idxP (fun x=>x==b) l n else if a=b then ((n+l.length:Nat):Int) else -1:=by
  intro l
  induction l with
  | nil=>
   intro n
   by_cases e:a=b
   ·simp [idxP,e]
   ·have:(a==b)=false:=by simpa using e
    simp [idxP,e,this]
  | cons y l ih=>
   intro n
   simp only [List.cons_append,idxP]
   by_cases e:(y==b)=true
   ·simp only [e,if_true]
    rw [if_pos (by omega)]
   ·simp only [e,if_false]
    rw [ih (n+1)]
    simp only [List.length_cons]
    rw [show n+1+l.length=n+(l.length+1) by omega]
    rfl
 have:=hg l 0
 rw [Nat.zero_add] at this
 exact this
theorem ze0 {d:Disk} {p:Plan} {a:Int} {s:Txt} (h:(pset p a s).2=0) (hl:p.targets.length=p.texts.length) (b:Int):
  plook d (pset p a s).1 b=if b=a then (s,0) else plook d p b:=by
 unfold pset at h ⊢
 split at h
 ·exact absurd h (by simp)
 rename_i h1
 rw [if_neg h1]
 split at h
 ·exact absurd h (by simp)
 rename_i h2
 rw [if_neg h2]
 split at h
 ·rename_i h3
  rw [if_pos h3]
  unfold plook
  simp only
  rcases za1 p.targets a with hk|⟨k,hk,hkl⟩
  ·omega
  rw [hk,Int.toNat_natCast]
  by_cases e:b=a
  ·subst e
   rw [if_pos rfl,hk,if_pos (by omega),Int.toNat_natCast]
   simp [List.getD_eq_getElem?_getD,show k<p.texts.length by omega]
  ·rw [if_neg e]
   rcases za1 p.targets b with hb|⟨m,hm,hml⟩
   ·rw [if_neg (by omega),if_neg (by omega)]
   ·rw [if_pos (by omega),if_pos (by omega),hm,Int.toNat_natCast]
    have hne:k≠m:=by
     rintro rfl
     have e1:=zlh hk
     have e2:=zlh hm
     rw [e1] at e2
     exact e (Option.some.inj e2).symm
    simp [List.getD_eq_getElem?_getD,List.getElem?_set_ne hne]
 ·rename_i h3
  rw [if_neg h3]
  split at h
  ·exact absurd h (by simp)
  rename_i h4
  rw [if_neg h4]
  unfold plook
  simp only
  rw [zrG]
  by_cases e:b=a
  ·subst e
   rw [if_pos rfl,if_neg h3,if_pos rfl,if_pos (by omega),Int.toNat_natCast,hl]
   simp
  ·rw [if_neg e]
   by_cases hb:0≤pfind p.targets b
   ·rw [if_pos hb,if_pos hb,if_pos hb]
    rcases za1 p.targets b with hc|⟨m,hm,hml⟩
    ·omega
    ·rw [hm,Int.toNat_natCast,List.getD_eq_getElem?_getD,List.getElem?_append_left (by omega),← List.getD_eq_getElem?_getD]
   ·rw [if_neg hb,if_neg hb,if_neg (fun h:a=b=>e h.symm),if_neg (by decide)]
theorem zi2 {d:Disk} {p:Plan} {a off:Int} {s:Txt} (h:(zb8 d p a off s).2=0):(plook d p a).2=0∧(overS (plook d p a).1 off s).2=0∧zb8 d p a off s=pset p a (overS (plook d p a).1 off s).1:=by
 unfold zb8 at h ⊢
 split at h
 ·rename_i h1;exact absurd h h1
 rename_i h1
 rw [if_neg h1]
 split at h
 ·rename_i h2;exact absurd h h2
 rename_i h2
 rw [if_neg h2]
 exact ⟨by simpa using h1,by simpa using h2,rfl⟩
theorem zfq {d:Disk} {p:Plan} {a off:Int} {s:Txt} (h:(zb8 d p a off s).2=0) (hl:p.targets.length=p.texts.length) (b:Int):
  plook d (zb8 d p a off s).1 b=if b=a then (lay (plook d p a).1 off.toNat s,0) else plook d p b:=by
 obtain ⟨h1,h2,h3⟩:=zi2 h
 rw [h3] at h ⊢
 rw [ze0 h hl,(zrF h2).2.2]
theorem zpv (c:UInt8) (l:Txt):takeN (c::l)=c.toNat*256 ^ l.length+takeN l:=by
 have hg:∀ (l:Txt) (n:Nat),l.foldl (fun n c=>n*256+c.toNat) n=n*256 ^ l.length+l.foldl (fun n c=>n*256+c.toNat) 0:=by
  intro l
  induction l with
  |nil=>intro n;simp
  |cons c l ih=>
   intro n
   simp only [List.foldl_cons,List.length_cons]
   rw [ih (n*256+c.toNat),ih (0*256+c.toNat),Nat.zero_mul,Nat.zero_add,Nat.add_mul,Nat.mul_assoc,Nat.pow_succ,Nat.mul_comm 256,Nat.add_assoc]
 unfold takeN
 rw [List.foldl_cons,hg]
 simp
theorem zeG (n:Nat):∀k,takeN (putN n k)=n % 256 ^ k
 |0=>by simp [putN,takeN,Nat.mod_one]
 |k+1=>by
  rw [zhB,zpv,zI,zeG n k]
  have h1:(UInt8.ofNat (n / 256 ^ k)).toNat=n / 256 ^ k % 256:=by simp
  rw [h1,Nat.pow_succ,Nat.mod_mul,Nat.mul_comm,Nat.add_comm]
theorem zgu {d:Disk} {p:Plan} {k by_:Int} (hd:DP d p) (h:(radd d p k by_).2=0) {b:Int} (hb:b<87∨95≤b):plook d (radd d p k by_).1 b=plook d p b:=by
 unfold radd at h ⊢
 split at h
 ·rename_i h1;exact absurd h h1
 rename_i h1
 have h1':(rget d p k).2=0:=by simpa using h1
 rw [if_neg h1]
 split at h
 ·exact absurd h (by simp)
 rename_i h2
 rw [if_neg h2]
 obtain ⟨hk0,hk1⟩:=zjK h1'
 rw [zfq h hd.plen,if_neg (by omega)]
open Go Go.Proofs
theorem zi3 {d:Disk} {p:Plan} {t:Int} :∀ (m:Nat) (k:Int) (l:List Int),(zdL d p t m k l).1.length≤l.length+m
 |0,k,l=>Nat.le_refl _
 | m+1,k,l=>by
  rw [zdL]
  split
  ·simp
  ·refine Nat.le_trans (zi3 m (k+1) _) ?_
   split
   ·simp only [List.length_append,List.length_singleton];omega
   ·omega
theorem zgv {d:Disk} {p:Plan} {t:Int} :∀ (m:Nat) (k:Int) (l:List Int),(zfa d p t m k l).1.length≤l.length+17*m
 |0,k,l=>Nat.le_refl _
 | m+1,k,l=>by
  rw [zfa]
  split
  ·simp
  split
  ·simp
  split
  ·refine Nat.le_trans (zgv m (k+1) _) ?_;omega
  split
  ·simp
  ·refine Nat.le_trans (zgv m (k+1) _) ?_
   have:=zi3 (d:=d) (p:=p) (t:=(eget d p t k).1.loc) 16 0 (l++ [(eget d p t k).1.loc])
   simp only [List.length_append,List.length_singleton] at this
   omega
theorem zli {d:Disk} {p:Plan} {t:Int} :(reach d p t).1.length≤68:=by
 exact zgv (d:=d) (p:=p) (t:=t) 4 0 []
open Go Go.Proofs
def shareK (d:Disk) (by_:Int):List Int→Plan→Plan×Int
 | [],q=>(q,0)
 |k::r,q=>if (radd d q k by_).2≠0 then (q,(radd d q k by_).2) else shareK d by_ r (radd d q k by_).1
def share (d:Disk) (p:Plan) (l1 by_:Int):Plan×Int:=
 if (reach d p l1).2≠0 then (p,(reach d p l1).2) else if (shareK d by_ (reach d p l1).1 p).2≠0 then (p,(shareK d by_ (reach d p l1).1 p).2) else shareK d by_ (reach d p l1).1 p
theorem DP.shareK {d:Disk} (by_:Int):∀ (l:List Int) {p:Plan},DP d p→DP d (shareK d by_ l p).1
 | [],p,h=>h
 |k::r,p,h=>by
  rw [Aw.shareK]
  split
  ·exact h
  ·exact DP.shareK by_ r (h.radd _ _)
theorem DP.share {d:Disk} {p:Plan} (h:DP d p) (l1 by_:Int):DP d (share d p l1 by_).1:=by
 unfold Aw.share
 split
 ·exact h
 split
 ·exact h
 ·exact DP.shareK _ _ h
theorem DP.setsnap {d:Disk} {p:Plan} (h:DP d p) (i:Int) (s:Snp):DP d (setsnap d p i s).1:=by
 unfold Aw.setsnap
 split
 ·exact h
 split
 ·exact h
 ·exact ⟨h.d,zgj h.p⟩
def sfind (l:List Snp) (id:Int):Int:=idxP (fun s=>id !=0&&s.id==id) l 0
def slist (d:Disk):List Snp×Int:=
 if (zi d p0).2≠0 then ([],(zi d p0).2) else if (snaps d p0).2≠0 then ([],(snaps d p0).2) else ((snaps d p0).1.filter (fun s=>s.id !=0),0)
def zeb (x:Img) (id:Int) (q:Plan×Int):Img×Int×Int:=
 if q.2≠0 then (x,0,q.2) else if (cdone x q.1).2≠0 then ((cdone x q.1).1,0,(cdone x q.1).2) else ((cdone x q.1).1,id,0)
def zec (x:Img) (r:Root) (q:Plan×Int):Img×Int×Int:=
 if q.2≠0 then (x,0,q.2) else zeb x r.next (zav q.1 ⟨r.l1,r.next+1⟩)
def zed (x:Img) (name:Txt) (r:Root) (at_ k:Int) (q:Plan×Int):Img×Int×Int:=
 if q.2≠0 then (x,0,q.2) else zec x r (setsnap x.disk q.1 at_ ⟨r.next,k,name⟩)
def zee (x:Img) (name:Txt) (r:Root) (at_ k:Int) (q:Plan×Int):Img×Int×Int:=
 if q.2≠0 then (x,0,q.2) else zed x name r at_ k (share x.disk q.1 r.l1 1)
def zcR (x:Img) (name:Txt) (r:Root) (at_:Int) (t:Plan×Int×Int):Img×Int×Int:=
 if t.2.2≠0 then (x,0,t.2.2) else zee x name r at_ t.2.1 (ecopy x.disk t.1 r.l1 t.2.1)
def zU (x:Img) (name:Txt):Img×Int×Int:=
 if x.broken then (x,0,24) else if (zi x.disk p0).2≠0 then (x,0,(zi x.disk p0).2) else if (snaps x.disk p0).2≠0 then (x,0,(snaps x.disk p0).2)
 else if zar name=false then (x,0,19) else if (snaps x.disk p0).1.any (fun s=>s.id !=0&&s.name==name) then (x,0,20)
 else if idxP (fun s=>s.id==0) (snaps x.disk p0).1 0<0 then (x,0,17) else if (zi x.disk p0).1.next=0∨(zi x.disk p0).1.next=4294967295 then (x,0,10)
 else zcR x name (zi x.disk p0).1 (idxP (fun s=>s.id==0) (snaps x.disk p0).1 0) (rtake x.disk p0 x.geom)
open Go Go.Proofs
theorem zm2 (d:Disk) (p:Plan) (l1 by_:Int) (h:DP d p):AC 50 [diskA d,planA p,.d (.int .i64 l1),.d (.int .i64 by_)] (.tup [planA (share d p l1 by_).1,.d (.int .i64 (share d p l1 by_).2)]):=by
 refine fbod Tryz.func50 Tryz.ntmps50 (fun base=>?_)
 have hrl:=zli (d:=d) (p:=p) (t:=l1)
 obtain ⟨W,hW⟩:∃W,W=reach d p l1:=⟨_,rfl⟩
 rw [← hW] at hrl
 have hsh:share d p l1 by_=if W.2≠0 then (p,W.2) else if (shareK d by_ W.1 p).2≠0 then (p,(shareK d by_ W.1 p).2) else shareK d by_ W.1 p:=by rw [share,hW]
 refine' walkW hW.symm (za zd9 <| za zJ <| zb _)
 ·rw [hsh,if_pos (bneP hc)]
 rw [if_neg (bneN hc)] at hsh
 refine zk (fun q: { q:Nat×Plan // q.1≤W.1.length∧DP d q.2∧shareK d by_ W.1 p=shareK d by_ (W.1.drop q.1) q.2 } =>⟨[(3,true,.d (.int .i64 by_)),(4,true,.vp 0 0),(5,true,.vp 1 0),(8,true,.vp 2 0),(10,true,.d (.sl 1 (W.1.map intD))),(12,true,.vp 3 0),(13,true,.d (.int .i64 q.1.1))],[(3,(.var [.d (.sl 1 (q.1.2.targets.map intD)),.d (.sl 1 (q.1.2.texts.map strD))])),(2,.var [.nils 1,.nils 1]),(1,(.var [.d (.sl 1 (p.targets.map intD)),.d (.sl 1 (p.texts.map strD))])),(0,(.var [.d (.str d.data),.d (.sl 2 (d.cache.map putD)),.d (.int .i64 d.fuse),.d (.bool d.off),.d (.sl 1 (d.bad.map intD))]))],some []⟩) (fun q=>W.1.length - q.1.1) ⟨(0,p),Nat.zero_le _,h,rfl⟩ le1 (fun q=>?_)
 obtain ⟨⟨i,q⟩,hi,hp,ht⟩:=q
 simp only at hi hp ht ⊢
 rcases zM intD W.1 i hi with ⟨u,hq,hlt,hcmp,hrow,hdr,htk⟩|⟨hend,hcmp⟩
 ·simp only [intD] at hrow
  have hwi:=zn (i:=i) (by omega)
  rw [hdr,shareK] at ht
  have hpn:=hp.radd u by_
  obtain ⟨A,hA⟩:∃A,A=radd d q u by_:=⟨_,rfl⟩
  rw [← hA] at ht hpn
  refine' walkW (zA hcmp hrow hA.symm) (za zd9 <| za zJ <| zb _)
  ·rw [if_pos (bneP hc)] at ht
   rw [hsh,ht,if_pos (bneP hc)]
  ·rw [if_neg (bneN hc)] at ht
   exact ⟨⟨(i+1,A.1),by omega,hpn,ht⟩,lew,by simp;omega⟩
 ·rw [hend,List.drop_length] at ht
  rw [ht,if_neg (by simp [shareK])] at hsh
  refine' walkW hcmp (za zd9 <| za zJ <| zb _)
  rw [hsh]
  rfl
@[go_sem] noncomputable def zC:Ent Tryz.prog 50:= .m4 zq zw (intT .i64) (intT .i64) zm2
open Go Go.Proofs
def sbeg (d:Disk):Root×List Snp×Int:=((zi d p0).1,if (zi d p0).2≠0 then ([],(zi d p0).2) else snaps d p0)
theorem zm3 (x:Img) (h:ImgF x):AC 35 [imgA x] (.tup [rootA (sbeg x.disk).1,.d (.sl 3 ((sbeg x.disk).2.1.map snpD)),.d (.int .i64 (sbeg x.disk).2.2)]):=by
 refine fbod Tryz.func35 Tryz.ntmps35 (fun base=>?_)
 have hdp:DP x.disk p0:=⟨h.disk,zcw⟩
 obtain ⟨R,hR⟩:∃R,R=zi x.disk p0:=⟨_,rfl⟩
 obtain ⟨L,hL⟩:∃L,L=snaps x.disk p0:=⟨_,rfl⟩
 have hs:sbeg x.disk=(R.1,if R.2≠0 then ([],R.2) else L):=by rw [sbeg,hR,hL]
 refine' walkW (zp hR.symm hL.symm) (za zu <| za zjU <| zb _)
 ·rw [hs,if_pos (bneP hc)]
  rfl
 ·rw [hs,if_neg (bneN hc)]
@[go_sem] noncomputable def zD:Ent Tryz.prog 35:= .m1 zbD zm3
theorem zpw (l:List Snp) (id:Int) (hl:l.length≤9223372036854775807):AC 57 [.d (.sl 3 (l.map snpD)),.d (.int .u32 id)] (.d (.int .i64 (sfind l id))):=by
 refine fbod Tryz.func57 Tryz.ntmps57 (fun base=>?_)
 refine' zc fx
 refine zk (fun q:Idst (fun s=>id !=0&&s.id==id) l=>⟨[(0,true,.d (.sl 3 (l.map snpD))),(1,true,.d (.int .u32 id)),(5,true,.d (.int .i64 q.1))],[],some []⟩) (fun q=>l.length - q.1) ⟨0,Nat.zero_le _,rfl⟩ le0 (fun q=>?_)
 obtain ⟨i,hi,hf⟩:=q
 simp only at hi hf ⊢
 have hsf:sfind l id=idxP (fun s=>id !=0&&s.id==id) (l.drop i) i:=hf
 rcases zM snpD l i hi with ⟨u,hq,hlt,hcmp,hrow,hdr,htk⟩|⟨hend,hcmp⟩
 ·simp only [snpD] at hrow
  have hwi:=zn (i:=i) (by omega)
  rw [hdr,idxP] at hsf
  cases hb:(id !=0&&u.id==id) with
  |true=>
   refine' zc (zA hcmp hrow hb)
   rw [hsf,hb]
   rfl
  |false=>
   refine' zc (zA hcmp hrow hb)
   exact ⟨⟨i+1,by omega,by rw [hf,hdr,idxP,hb];rfl⟩,lew,by simp;omega⟩
 ·refine' zc hcmp
  rw [hsf,hend,List.drop_length]
  rfl
@[go_sem] noncomputable def zaa:Ent Tryz.prog 57:= .m2 (slT 3 snpD zds) (intT .u32) zpw
theorem zpx {l:List Snp} {P:Snp→Bool} {i:Nat} {s:Snp} (hq:l[i]?=some s):idxP P (l.take (i+1)) 0=if idxP P (l.take i) 0<0 then (if P s then (i:Int) else -1) else idxP P (l.take i) 0:=by
 have hi:i<l.length:=(List.getElem?_eq_some_iff.1 hq).1
 have hg:∀ (m:List Snp) (n:Nat),idxP P (m++ [s]) n=if idxP P m n<0 then (if P s then ((n+m.length:Nat):Int) else -1) else idxP P m n:=by
  intro m
  induction m with
  |nil=>intro n;simp [idxP]
  | cons y m ih=>
   intro n
   rw [List.cons_append]
   by_cases hy:P y=true
   ·have e1:idxP P (y::(m++ [s])) n=n:=by simp [idxP,hy]
    have e2:idxP P (y::m) n=n:=by simp [idxP,hy]
    rw [e1,e2,if_neg (by omega)]
   ·have e1:idxP P (y::(m++ [s])) n=idxP P (m++ [s]) (n+1):=by simp [idxP,hy]
    have e2:idxP P (y::m) n=idxP P m (n+1):=by simp [idxP,hy]
    rw [e1,e2,ih (n+1),List.length_cons,show n+1+m.length=n+(m.length+1) by omega]
 rw [za9 hq,hg,Nat.zero_add,List.length_take,Nat.min_eq_left (by omega)]
theorem zdh (d:Disk) (p:Plan):0≤(zi d p).1.l1∧(zi d p).1.l1≤65535∧0≤(zi d p).1.next∧(zi d p).1.next≤4294967295:=by
 unfold zi
 split
 ·simp
 ·unfold rootT
  repeat' split
  all_goals first|decide|exact zgm _
theorem zef {p:Plan} {r:Root} (hp:pfit p=true):pfit (zav p r).1=true:=by
 unfold zav
 split
 ·exact hp
 ·exact zcP hp
def zfT (x:Img) (name:Txt) (R:Root) (L:List Snp):Img×Int×Int:=
 if zar name=false then (x,0,19) else if L.any (fun s=>s.id !=0&&s.name==name) then (x,0,20)
 else if idxP (fun s=>s.id==0) L 0<0 then (x,0,17) else if R.next=0∨R.next=4294967295 then (x,0,10)
 else zcR x name R (idxP (fun s=>s.id==0) L 0) (rtake x.disk p0 x.geom)
theorem zh3 (x:Img) (name:Txt):zU x name=if x.broken then (x,0,24) else if (sbeg x.disk).2.2≠0 then (x,0,(sbeg x.disk).2.2) else zfT x name (sbeg x.disk).1 (sbeg x.disk).2.1:=by
 unfold zU sbeg zfT
 by_cases h1:(zi x.disk p0).2=0
 ·simp only [h1,ne_eq,not_true_eq_false,if_false]
 ·simp only [h1,ne_eq,not_false_eq_true,if_true]
theorem zdw (d:Disk):(sbeg d).2.1.length≤8:=by
 unfold sbeg
 simp only
 split
 ·exact Nat.zero_le _
 ·exact zrc
theorem zlj (x:Img) (name:Txt) (hp:ImgF x∧name.length≤9223372036854775807):AC 11 [imgA x,.d (.str name)] (.tup [imgA (zU x name).1,.d (.int .u32 (zU x name).2.1),.d (.int .i64 (zU x name).2.2)]):=by
 obtain ⟨h,hn⟩:=hp
 refine fbod Tryz.func11 Tryz.ntmps11 (fun base=>?_)
 have hdp:DP x.disk p0:=⟨h.disk,zcw⟩
 have hho:=h.host
 have hiok:=h.ok
 have hdok:=h.disk
 have hq0:=h.seq0
 have hq1:=h.seq1
 have hLl:=zdw x.disk
 have hRr:0≤(sbeg x.disk).1.next∧(sbeg x.disk).1.next≤4294967295:=(zdh x.disk p0).2.2
 obtain ⟨R,hR⟩:∃R,R=(sbeg x.disk).1:=⟨_,rfl⟩
 obtain ⟨L,hL⟩:∃L,L=(sbeg x.disk).2.1:=⟨_,rfl⟩
 obtain ⟨E,hE⟩:∃E,E=(sbeg x.disk).2.2:=⟨_,rfl⟩
 obtain ⟨Z,hZ⟩:∃Z,Z=zU x name:=⟨_,rfl⟩
 have hZ2:=hZ
 rw [zh3,← hR,← hL,← hE] at hZ2
 rw [← hL] at hLl
 rw [← hR] at hRr
 refine' walkW (z8 hR.symm hL.symm hE.symm hZ.symm) (za zD <| za zN <| za zO <| za zE <| za zC <| za zt <| za zbO <| za zo <| zb _)
 ·rw [hZ2,if_pos hc]
 ·rename_i h0
  rw [hZ2,if_neg (by rw [h0];decide),if_pos (bneP hc)]
 ·rename_i h0 h1
  rw [hZ2,if_neg (by rw [h0];decide),if_neg (bneN h1),zfT,if_pos (by simpa using hc)]
 rename_i h1 h2
 rw [if_neg (by rw [h1];decide),if_neg (bneN h2),zfT,if_neg (by rw [Bool.not_eq_false'] at hc;rw [hc];decide)] at hZ2
 obtain ⟨I,hI⟩:∃I:Int,I=idxP (fun s=>s.id==0) L 0:=⟨_,rfl⟩
 rw [← hI] at hZ2
 refine zk (fun q: { i:Nat // i≤L.length∧L.any (fun s=>s.id !=0&&s.name==name)=(L.drop i).any (fun s=>s.id !=0&&s.name==name) } =>⟨[(1,true,.d (.str name)),(2,true,.vp 0 0),(4,true,.vp 1 0),(7,true,.vp 2 0),(8,true,.d (.sl 3 (L.map snpD))),(10,true,.d (.int .i64 (idxP (fun s=>s.id==0) (L.take q.1) 0))),(11,true,.d (.int .i64 q.1))],[(2,.var [.d (.int .i64 R.l1),.d (.int .u32 R.next)]),(1,.var img0),(0,.var (imgV x))],some []⟩) (fun q=>L.length - q.1) ⟨0,Nat.zero_le _,rfl⟩ (by simp only [AS.le,leT,leH,zj,AsgK,AV.le,AV.leL,AObj.le,inH,idsT,idsH,AV.ids,AV.idsL,AV.idsR,AObj.ids,lk,hget,go_sem,aeq,aeq.aeqF,simprocAttr,idxP]<;>and_intros<;>rfl) (fun q=>?_)
 obtain ⟨i,hi,ht⟩:=q
 simp only at hi ht ⊢
 rcases zM snpD L i hi with ⟨u,hq,hlt,hcmp,hrow,hdr,htk⟩|⟨hend,hcmp⟩
 ·simp only [snpD] at hrow
  have hwi:=zn (i:=i) (by omega)
  have hsn:=zpx (P:=fun s=>s.id==0) hq
  rw [hdr,List.any_cons] at ht
  obtain ⟨k,hk⟩:∃k,k=idxP (fun s=>s.id==0) (L.take i) 0:=⟨_,rfl⟩
  rw [← hk] at hsn ⊢
  cases hb:(u.id !=0&&u.name==name) with
  |true=>
   rw [hb,Bool.true_or] at ht
   refine' walkW (z8 hcmp hrow hb hZ.symm) (za zD <| za zN <| za zO <| za zE <| za zC <| za zt <| za zbO <| za zo <| zb _)
   rw [hZ2,if_pos ht]
  | false=>
   rw [hb,Bool.false_or] at ht
   cases hb2:(u.id==0&&decide (k<0)) with
   | true=>
    have hk2:idxP (fun s=>s.id==0) (L.take (i+1)) 0=i:=by
     rw [Bool.and_eq_true,decide_eq_true_eq] at hb2
     rw [hsn,if_pos hb2.2,if_pos hb2.1]
    refine' walkW (z8 hcmp hrow hb hb2) (za zD <| za zN <| za zO <| za zE <| za zC <| za zt <| za zbO <| za zo <| zb _)
    exact ⟨⟨i+1,by omega,ht⟩,by simp only [hk2];simp only [AS.le,leT,leH,zj,AsgK,AV.le,AV.leL,AObj.le,inH,idsT,idsH,AV.ids,AV.idsL,AV.idsR,AObj.ids,lk,hget,go_sem,aeq,aeq.aeqF,simprocAttr,hwi],by simp;omega⟩
   | false=>
    have hk2:idxP (fun s=>s.id==0) (L.take (i+1)) 0=k:=by
     rw [hsn]
     by_cases hk0:k<0
     ·rw [if_pos hk0,if_neg (by rw [decide_eq_true hk0,Bool.and_true] at hb2;rw [hb2];decide)]
      rcases zcv (fun s:Snp=>s.id==0) (L.take i) 0 with hh|hh<;>omega
     ·rw [if_neg hk0]
    refine' walkW (z8 hcmp hrow hb hb2) (za zD <| za zN <| za zO <| za zE <| za zC <| za zt <| za zbO <| za zo <| zb _)
    exact ⟨⟨i+1,by omega,ht⟩,by simp only [hk2];simp only [AS.le,leT,leH,zj,AsgK,AV.le,AV.leL,AObj.le,inH,idsT,idsH,AV.ids,AV.idsL,AV.idsR,AObj.ids,lk,hget,go_sem,aeq,aeq.aeqF,simprocAttr,hwi],by simp;omega⟩
 rw [hend,List.drop_length] at ht
 rw [if_neg (by rw [ht];simp)] at hZ2
 rw [hend] at hcmp
 rw [hend,List.take_length,← hI]
 clear hI ht hi hend
 obtain ⟨T,hT⟩:∃T,T=rtake x.disk p0 x.geom:=⟨_,rfl⟩
 have hd1:DP x.disk T.1:=by rw [hT];exact hdp.rtake _
 rw [← hT,zcR] at hZ2
 obtain ⟨C,hC⟩:∃C,C=ecopy x.disk T.1 R.l1 T.2.1:=⟨_,rfl⟩
 have hd2:DP x.disk C.1:=by rw [hC];exact hd1.ecopy _ _
 rw [← hC,zee] at hZ2
 obtain ⟨S,hS⟩:∃S,S=share x.disk C.1 R.l1 1:=⟨_,rfl⟩
 have hd3:DP x.disk S.1:=by rw [hS];exact hd2.share _ _
 rw [← hS,zed] at hZ2
 obtain ⟨P,hP⟩:∃P,P=setsnap x.disk S.1 I ⟨R.next,T.2.1,name⟩:=⟨_,rfl⟩
 have hd4:DP x.disk P.1:=by rw [hP];exact hd3.setsnap _ _
 rw [← hP,zec] at hZ2
 obtain ⟨Q,hQ⟩:∃Q,Q=zav P.1 ⟨R.l1,R.next+1⟩:=⟨_,rfl⟩
 have hd5:pfit Q.1=true:=by rw [hQ];exact zef hd4.p
 have hd4p:=hd4.p
 rw [← hQ,zeb] at hZ2
 obtain ⟨D,hD⟩:∃D,D=cdone x Q.1:=⟨_,rfl⟩
 rw [← hD] at hZ2
 refine' zgH (zaN 20) (zp hcmp hZ.symm) (za zD <| za zN <| za zO <| za zE <| za zC <| za zt <| za zbO <| za zo <| zb _)
 ·rw [hZ2,if_pos (of_decide_eq_true hc)]
 ·rename_i h3
  rw [hZ2,if_neg (of_decide_eq_false h3),if_pos (by simpa using hc)]
 rename_i h3
 have hnx:R.next≠0∧R.next≠4294967295:=by simpa using hc
 have hwn:IntKind.u32.wrap (R.next+1)=R.next+1:=zeV (by omega) (by omega)
 rw [if_neg (of_decide_eq_false h3),if_neg (by omega)] at hZ2
 refine' walkW (zL hT.symm hC.symm hS.symm hP.symm hQ.symm (zA hD.symm hZ.symm hwn)) (za zD <| za zN <| za zO <| za zE <| za zC <| za zt <| za zbO <| za zo <| zb _)
 all_goals first|omega|skip
 all_goals rw [hZ2]
 all_goals (refine (show (_:AV)=_ from ?_));(repeat (first|(rewrite [if_pos];rotate_left;(first|exact bneP (by assumption)|exact beqP (by assumption)|exact of_decide_eq_true (by assumption)|assumption))|(rewrite [if_neg];rotate_left;(first|exact bneN (by assumption)|exact beqN (by assumption)|exact of_decide_eq_false (by assumption)|assumption))))
 all_goals rfl
@[go_sem] noncomputable def zfb:Ent Tryz.prog 11:= .m2 zbD strT zlj
open Go Go.Proofs
theorem ztL (d:Disk):∀s∈(sbeg d).2.1,zn5 s:=by
 unfold sbeg
 simp only
 split
 ·intro s hs;cases hs
 ·exact zrd
theorem zfU (d:Disk):slist d=if (sbeg d).2.2≠0 then ([],(sbeg d).2.2) else ((sbeg d).2.1.filter (fun s=>s.id !=0),0):=by
 unfold slist sbeg
 by_cases h1:(zi d p0).2=0
 ·simp only [h1,ne_eq,not_true_eq_false,if_false]
 ·simp only [h1,ne_eq,not_false_eq_true,if_true]
theorem zpy (x:Img) (h:ImgF x):AC 9 [imgA x] (.tup [.d (.sl 3 ((slist x.disk).1.map snpD)),.d (.int .i64 (slist x.disk).2)]):=by
 refine fbod Tryz.func9 Tryz.ntmps9 (fun base=>?_)
 have hLl:=zdw x.disk
 have hs:=zfU x.disk
 obtain ⟨L,hL⟩:∃L,L=(sbeg x.disk).2.1:=⟨_,rfl⟩
 obtain ⟨e,hE⟩:∃e,e=(sbeg x.disk).2.2:=⟨_,rfl⟩
 rw [← hL,← hE] at hs
 rw [← hL] at hLl
 refine' walkW (zp hL.symm hE.symm) (za zD <| za zaa <| za zC <| za zJ <| za zt <| za zo <| za zE <| za zv <| za zr <| zb _)
 refine zcq 7 3 rfl ?_
 simp only [fresh,top,hget, ↓reduceIte]
 refine zk (fun q: { q:Nat×List Snp // q.1≤L.length∧(e≠0→q.1=0)∧q.2=(L.take q.1).filter (fun s=>s.id !=0) } =>⟨[(5,true,.d (.sl 3 (L.map snpD))),(6,true,.d (.int .i64 e)),(7,true,.osl 2 3 q.1.2.length 0 q.1.2.length),(8,true,.d (.int .i64 q.1.1))],[(2,.arr 3 (q.1.2.map snpD))],some []⟩) (fun q=>L.length - q.1.1) ⟨(0,[]),Nat.zero_le _,fun _=>rfl,rfl⟩ le1 (fun q=>?_)
 obtain ⟨⟨i,l⟩,hi,h0,hl⟩:=q
 simp only at hi h0 hl ⊢
 have hlm:l.length=(l.map snpD).length:=by rw [List.length_map]
 have htk:List.take l.length (l.map snpD)=l.map snpD:=List.take_of_length_le (by simp)
 by_cases he:e=0
 ·have hb:(e==0)=true:=by simpa using he
  rcases zM snpD L i hi with ⟨u,hq,hlt,hcmp,hrow,hdr,ht⟩|⟨hend,hcmp⟩
  ·simp only [snpD] at hrow
   have hwi:=zn (i:=i) (by omega)
   cases hz:(u.id !=0) with
   |true=>
    have hll:l.length≤i:=by rw [hl];exact Nat.le_trans (List.length_filter_le ..) (by rw [List.length_take];omega)
    refine' walkW (zL hcmp hb hrow hz hlm.symm htk) (za zD <| za zaa <| za zC <| za zJ <| za zt <| za zo <| za zE <| za zv <| za zr <| zb _)
    all_goals first|omega|skip
    exact ⟨⟨(i+1,l++ [u]),by omega,fun h=>absurd he h,by rw [ht,List.filter_append,← hl];simp [List.filter,hz]⟩,by simp only [List.map_append];simp only [AS.le,leT,leH,zj,AsgK,AV.le,AV.leL,AObj.le,inH,idsT,idsH,AV.ids,AV.idsL,AV.idsR,AObj.ids,lk,hget,go_sem,aeq,aeq.aeqF,simprocAttr,hwi,List.length_append,List.length_cons,List.length_nil]<;>and_intros<;>rfl,by simp;omega⟩
   |false=>
    refine' walkW (z8 hcmp hb hrow hz) (za zD <| za zaa <| za zC <| za zJ <| za zt <| za zo <| za zE <| za zv <| za zr <| zb _)
    exact ⟨⟨(i+1,l),by omega,fun h=>absurd he h,by rw [ht,List.filter_append,← hl];simp [List.filter,hz]⟩,lev,by simp;omega⟩
  ·refine' walkW (zA hcmp hlm.symm htk) (za zD <| za zaa <| za zC <| za zJ <| za zt <| za zo <| za zE <| za zv <| za zr <| zb _)
   rw [hs,if_neg (by omega),hl,hend,List.take_length,he]
 ·have hb:(e==0)=false:=by simpa using he
  have hi0:=h0 he
  subst hi0
  have hl0:l= []:=by rw [hl];rfl
  subst hl0
  refine' walkW hb (za zD <| za zaa <| za zC <| za zJ <| za zt <| za zo <| za zE <| za zv <| za zr <| zb _)
  all_goals rw [hs,if_pos he]
  all_goals rfl
@[go_sem] noncomputable def zQ:Ent Tryz.prog 9:= .m1 zbD zpy
def snpAt (l:List Snp) (i:Int):Snp:=l.getD i.toNat snp0
theorem zfV {l:List Snp} {id:Int} (h:0≤sfind l id):∃u,l[(sfind l id).toNat]?=some u∧snpAt l (sfind l id)=u∧(sfind l id).toNat<l.length∧sfind l id=((sfind l id).toNat:Nat):=by
 rcases zcv (fun s:Snp=>id !=0&&s.id==id) l 0 with hh|hh
 ·unfold sfind at h;omega
 ·have hlt:(sfind l id).toNat<l.length:=by unfold sfind;omega
  obtain ⟨u,hu⟩:=zam hlt
  exact ⟨u,hu,by rw [snpAt,List.getD_eq_getElem?_getD,hu];rfl,hlt,by omega⟩
def sdelC (x:Img) (q:Plan×Int):Img×Int:=if q.2≠0 then (x,q.2) else cdone x q.1
def sdelB (x:Img) (i:Int) (q:Plan×Int):Img×Int:=if q.2≠0 then (x,q.2) else sdelC x (setsnap x.disk q.1 i snp0)
def sdelA (x:Img) (i k:Int) (q:Plan×Int):Img×Int:=if q.2≠0 then (x,q.2) else sdelB x i (radd x.disk q.1 k (-1))
def zaH (x:Img) (id:Int):Img×Int:=
 if x.broken then (x,24) else if (sbeg x.disk).2.2≠0 then (x,(sbeg x.disk).2.2) else if sfind (sbeg x.disk).2.1 id<0 then (x,21)
 else sdelA x (sfind (sbeg x.disk).2.1 id) (snpAt (sbeg x.disk).2.1 (sfind (sbeg x.disk).2.1 id)).l1 (share x.disk p0 (snpAt (sbeg x.disk).2.1 (sfind (sbeg x.disk).2.1 id)).l1 (-1))
theorem zlk (x:Img) (id:Int) (h:ImgF x):AC 13 [imgA x,.d (.int .u32 id)] (.tup [imgA (zaH x id).1,.d (.int .i64 (zaH x id).2)]):=by
 refine fbod Tryz.func13 Tryz.ntmps13 (fun base=>?_)
 have hdp:DP x.disk p0:=⟨h.disk,zcw⟩
 have hiok:=h.ok
 have hdok:=h.disk
 have hq0:=h.seq0
 have hq1:=h.seq1
 have hLl:=zdw x.disk
 obtain ⟨L,hL⟩:∃L,L=(sbeg x.disk).2.1:=⟨_,rfl⟩
 obtain ⟨e,hE⟩:∃e,e=(sbeg x.disk).2.2:=⟨_,rfl⟩
 obtain ⟨Z,hZ⟩:∃Z,Z=zaH x id:=⟨_,rfl⟩
 have hZ2:=hZ
 rw [zaH,← hL,← hE] at hZ2
 rw [← hL] at hLl
 obtain ⟨J,hJ⟩:∃J,J=sfind L id:=⟨_,rfl⟩
 have hat:=zfV (l:=L) (id:=id)
 rw [← hJ] at hZ2 hat
 refine' zgH (zaN 9) (z8 hL.symm hE.symm hZ.symm hJ.symm) (za zD <| za zaa <| za zC <| za zJ <| za zt <| za zo <| za zE <| za zv <| za zr <| zb _)
 ·rw [hZ2,if_pos hc]
 ·rename_i h0
  rw [hZ2,if_neg (by rw [h0];decide),if_pos (bneP hc)]
 ·rename_i h0 h1
  rw [hZ2,if_neg (by rw [h0];decide),if_neg (bneN h1),if_pos (of_decide_eq_true hc)]
 rename_i h1 h2
 have hJ0:0≤J:=by simpa using hc
 rw [if_neg (by rw [h1];decide),if_neg (bneN h2),if_neg (by omega)] at hZ2
 obtain ⟨u,hq,hu,hlt,hJn⟩:=hat hJ0
 rw [hu] at hZ2
 obtain ⟨n,hn⟩:∃n:Nat,n=J.toNat:=⟨_,rfl⟩
 rw [← hn] at hq hlt hJn
 subst hJn
 have hrow:=zbk (g:=snpD) hq
 simp only [snpD] at hrow
 obtain ⟨S,hS⟩:∃S,S=share x.disk p0 u.l1 (-1):=⟨_,rfl⟩
 have hd1:DP x.disk S.1:=by rw [hS];exact hdp.share _ _
 rw [← hS,sdelA] at hZ2
 obtain ⟨A,hA⟩:∃A,A=radd x.disk S.1 u.l1 (-1):=⟨_,rfl⟩
 have hd2:DP x.disk A.1:=by rw [hA];exact hd1.radd _ _
 rw [← hA,sdelB] at hZ2
 obtain ⟨B,hB⟩:∃B,B=setsnap x.disk A.1 n snp0:=⟨_,rfl⟩
 have hd3:DP x.disk B.1:=by rw [hB];exact hd2.setsnap _ _
 have hd3p:=hd3.p
 rw [← hB,sdelC] at hZ2
 obtain ⟨D,hD⟩:∃D,D=cdone x B.1:=⟨_,rfl⟩
 rw [← hD] at hZ2
 rw [snp0] at hB
 refine' walkW (zL hrow natC hS.symm hA.symm hB.symm (zp hD.symm hZ.symm)) (za zD <| za zaa <| za zC <| za zJ <| za zt <| za zo <| za zE <| za zv <| za zr <| zb _)
 all_goals first|omega|skip
 all_goals rw [hZ2]
 all_goals (refine (show (_:AV)=_ from ?_));(repeat (first|(rewrite [if_pos];rotate_left;(first|exact bneP (by assumption)|exact beqP (by assumption)|exact of_decide_eq_true (by assumption)|assumption))|(rewrite [if_neg];rotate_left;(first|exact bneN (by assumption)|exact beqN (by assumption)|exact of_decide_eq_false (by assumption)|assumption))))
 all_goals rfl
@[go_sem] noncomputable def zfc:Ent Tryz.prog 13:= .m2 zbD (intT .u32) zlk
def zdQ (x:Img):Nat→Img
 |0=>x
 |n+1=>cmark (zdQ x n) n
def srevC (x:Img) (q:Img×Int):Img×Int:=if q.2≠0 then (q.1,q.2) else (zdQ q.1 64,0)
def srevB (x:Img) (q:Plan×Int):Img×Int:=if q.2≠0 then (x,q.2) else srevC x (cdone x q.1)
def srevA (x:Img) (k r:Int) (q:Plan×Int):Img×Int:=if q.2≠0 then (x,q.2) else srevB x (ecopy x.disk q.1 k r)
def srev0 (x:Img) (k r:Int) (q:Plan×Int):Img×Int:=if q.2≠0 then (x,q.2) else srevA x k r (share x.disk q.1 r (-1))
def zcI (x:Img) (id:Int):Img×Int:=
 if x.broken then (x,24) else if (sbeg x.disk).2.2≠0 then (x,(sbeg x.disk).2.2) else if sfind (sbeg x.disk).2.1 id<0 then (x,21)
 else srev0 x (snpAt (sbeg x.disk).2.1 (sfind (sbeg x.disk).2.1 id)).l1 (sbeg x.disk).1.l1 (share x.disk p0 (snpAt (sbeg x.disk).2.1 (sfind (sbeg x.disk).2.1 id)).l1 1)
theorem ImgF.marks {x:Img} (h:ImgF x):∀n,ImgF (zdQ x n)
 |0=>h
 |n+1=>(ImgF.marks h n).mark n
theorem zll (x:Img) (id:Int) (h:ImgF x):AC 15 [imgA x,.d (.int .u32 id)] (.tup [imgA (zcI x id).1,.d (.int .i64 (zcI x id).2)]):=by
 refine fbod Tryz.func15 Tryz.ntmps15 (fun base=>?_)
 have hdp:DP x.disk p0:=⟨h.disk,zcw⟩
 have hiok:=h.ok
 have hdok:=h.disk
 have hq0:=h.seq0
 have hq1:=h.seq1
 have hLl:=zdw x.disk
 obtain ⟨R,hR⟩:∃R,R=(sbeg x.disk).1:=⟨_,rfl⟩
 obtain ⟨L,hL⟩:∃L,L=(sbeg x.disk).2.1:=⟨_,rfl⟩
 obtain ⟨e,hE⟩:∃e,e=(sbeg x.disk).2.2:=⟨_,rfl⟩
 obtain ⟨Z,hZ⟩:∃Z,Z=zcI x id:=⟨_,rfl⟩
 have hZ2:=hZ
 rw [zcI,← hL,← hE,← hR] at hZ2
 rw [← hL] at hLl
 obtain ⟨J,hJ⟩:∃J,J=sfind L id:=⟨_,rfl⟩
 have hat:=zfV (l:=L) (id:=id)
 rw [← hJ] at hZ2 hat
 refine' zgH (zaN 9) (zbQ hR.symm hL.symm hE.symm hZ.symm hJ.symm) (za zD <| za zaa <| za zC <| za zJ <| za zt <| za zo <| za zE <| za zv <| za zr <| zb _)
 ·rw [hZ2,if_pos hc]
 ·rename_i h0
  rw [hZ2,if_neg (by rw [h0];decide),if_pos (bneP hc)]
 ·rename_i h0 h1
  rw [hZ2,if_neg (by rw [h0];decide),if_neg (bneN h1),if_pos (of_decide_eq_true hc)]
 rename_i h1 h2
 have hJ0:0≤J:=by simpa using hc
 rw [if_neg (by rw [h1];decide),if_neg (bneN h2),if_neg (by omega)] at hZ2
 obtain ⟨u,hq,hu,hlt,hJn⟩:=hat hJ0
 rw [hu] at hZ2
 obtain ⟨n,hn⟩:∃n:Nat,n=J.toNat:=⟨_,rfl⟩
 rw [← hn] at hq hlt hJn
 subst hJn
 have hrow:=zbk (g:=snpD) hq
 simp only [snpD] at hrow
 obtain ⟨S,hS⟩:∃S,S=share x.disk p0 u.l1 1:=⟨_,rfl⟩
 have hd1:DP x.disk S.1:=by rw [hS];exact hdp.share _ _
 rw [← hS,srev0] at hZ2
 obtain ⟨A,hA⟩:∃A,A=share x.disk S.1 R.l1 (-1):=⟨_,rfl⟩
 have hd2:DP x.disk A.1:=by rw [hA];exact hd1.share _ _
 rw [← hA,srevA] at hZ2
 obtain ⟨B,hB⟩:∃B,B=ecopy x.disk A.1 u.l1 R.l1:=⟨_,rfl⟩
 have hd3:DP x.disk B.1:=by rw [hB];exact hd2.ecopy _ _
 have hd3p:=hd3.p
 rw [← hB,srevB] at hZ2
 obtain ⟨D,hD⟩:∃D,D=cdone x B.1:=⟨_,rfl⟩
 have hDF:ImgF D.1:=by rw [hD];exact h.done _
 rw [← hD,srevC] at hZ2
 refine' walkW (zL hrow natC hS.symm hA.symm hB.symm (zp hD.symm hZ.symm)) (za zD <| za zaa <| za zC <| za zJ <| za zt <| za zo <| za zE <| za zv <| za zr <| zb _)
 all_goals first|omega|skip
 all_goals first|(rw [hZ2];(refine (show (_:AV)=_ from ?_));(repeat (first|(rewrite [if_pos];rotate_left;(first|exact bneP (by assumption)|exact beqP (by assumption)|exact of_decide_eq_true (by assumption)|assumption))|(rewrite [if_neg];rotate_left;(first|exact bneN (by assumption)|exact beqN (by assumption)|exact of_decide_eq_false (by assumption)|assumption))));rfl;done)|skip
 rename_i h5 h6 h7
 rw [if_neg (bneN h5),if_neg (bneN h6),if_neg (bneN h7),if_neg (bneN hc)] at hZ2
 refine zk (fun q: { i:Nat // i≤64 } =>⟨[(2,true,.vp 0 0),(4,true,.vp 1 0),(11,true,.d (.int .i64 q.1))],[(1,.var img0),(0,.var (imgV (zdQ D.1 q.1)))],some []⟩) (fun q=>64 - q.1) ⟨0,Nat.zero_le _⟩ le1 (fun q=>?_)
 obtain ⟨i,hi⟩:=q
 simp only at hi ⊢
 have hmi:=hDF.marks i
 have hmo:=hmi.ok
 have hml:=hmi.maps
 rcases Nat.lt_or_ge i 64 with hlt64|hge
 ·have hcmp:decide ((i:Int)<64)=true:=decide_eq_true (by omega)
  have hwi:=zn (i:=i) (by omega)
  have hms:zdQ D.1 (i+1)=cmark (zdQ D.1 i) i:=rfl
  refine' walkW hcmp (za zD <| za zaa <| za zC <| za zJ <| za zt <| za zo <| za zE <| za zv <| za zr <| zb _)
  all_goals first|omega|skip
  exact ⟨⟨i+1,by omega⟩,by simp only [hms];simp only [AS.le,leT,leH,zj,AsgK,AV.le,AV.leL,AObj.le,inH,idsT,idsH,AV.ids,AV.idsL,AV.idsR,AObj.ids,lk,hget,go_sem,aeq,aeq.aeqF,simprocAttr,hwi]<;>and_intros<;>rfl,by simp;omega⟩
 ·have hcmp:decide ((i:Int)<64)=false:=decide_eq_false (by omega)
  have h64:i=64:=by omega
  subst h64
  refine' walkW (zp hcmp hZ.symm) (za zD <| za zaa <| za zC <| za zJ <| za zt <| za zo <| za zE <| za zv <| za zr <| zb _)
  rw [hZ2]
@[go_sem] noncomputable def zfd:Ent Tryz.prog 15:= .m2 zbD (intT .u32) zll
def sread (x:Img) (id guest:Int):Txt×Int:=
 if (sbeg x.disk).2.2≠0 then ([],(sbeg x.disk).2.2) else if sfind (sbeg x.disk).2.1 id<0 then ([],21) else if guest<0∨x.geom.guest≤guest then ([],10)
 else cread x.disk (snpAt (sbeg x.disk).2.1 (sfind (sbeg x.disk).2.1 id)).l1 guest
theorem zpz (x:Img) (id guest:Int) (h:ImgF x):AC 17 [imgA x,.d (.int .u32 id),.d (.int .i64 guest)] (.tup [.d (.str (sread x id guest).1),.d (.int .i64 (sread x id guest).2)]):=by
 refine fbod Tryz.func17 Tryz.ntmps17 (fun base=>?_)
 have hdok:=h.disk
 have hLl:=zdw x.disk
 obtain ⟨L,hL⟩:∃L,L=(sbeg x.disk).2.1:=⟨_,rfl⟩
 obtain ⟨e,hE⟩:∃e,e=(sbeg x.disk).2.2:=⟨_,rfl⟩
 have hZ:sread x id guest=_:=rfl
 unfold sread at hZ
 obtain ⟨Z,hZe⟩:∃Z,Z=sread x id guest:=⟨_,rfl⟩
 rw [sread,← hL,← hE] at hZe
 have hZ3:Z=sread x id guest:=by rw [hZe,sread,hL,hE]
 rw [← hL] at hLl
 obtain ⟨J,hJ⟩:∃J,J=sfind L id:=⟨_,rfl⟩
 have hat:=zfV (l:=L) (id:=id)
 rw [← hJ] at hZe hat
 clear hZ
 refine' zgH (zaN 7) (z8 hL.symm hE.symm hZ3.symm hJ.symm) (za zD <| za zaa <| za zC <| za zJ <| za zt <| za zo <| za zE <| za zv <| za zr <| zb _)
 ·rw [hZe,if_pos (bneP hc)]
 ·rename_i h1
  rw [hZe,if_neg (bneN h1),if_pos (of_decide_eq_true hc)]
 rename_i h2
 have hJ0:0≤J:=by simpa using hc
 rw [if_neg (bneN h2),if_neg (by omega)] at hZe
 obtain ⟨u,hq,hu,hlt,hJn⟩:=hat hJ0
 rw [hu] at hZe
 obtain ⟨n,hn⟩:∃n:Nat,n=J.toNat:=⟨_,rfl⟩
 rw [← hn] at hq hlt hJn
 subst hJn
 have hrow:=zbk (g:=snpD) hq
 simp only [snpD] at hrow
 cases hb:(decide (guest<0)||decide (x.geom.guest≤guest)) with
 |true=>
  refine' walkW (zp hb hZ3.symm) (za zD <| za zaa <| za zC <| za zJ <| za zt <| za zo <| za zE <| za zv <| za zr <| zb _)
  rw [hZe,if_pos (by simpa using hb)]
 |false=>
  refine' walkW (z8 hb hrow natC hZ3.symm) (za zD <| za zaa <| za zC <| za zJ <| za zt <| za zo <| za zE <| za zv <| za zr <| zb _)
  all_goals first|omega|skip
  rw [hZe,if_neg (by simpa using hb)]
@[go_sem] noncomputable def zgP:Ent Tryz.prog 17:= .m3 zbD (intT .u32) (intT .i64) zpz
end Go.Aw
