/-
  Parts of the proof: ViewC, AuditB, AuditC, ReachA, SnapA, ReachB, AuditD, AuditE, ShareA, WipeA, SnapB, SmallA, AuditF (short names; the readable texts lie in the repo, under wip).
-/
import Derived.Test.YtglmbboafmmnpaaGreatDoorPart7
import Derived.Test.YtglmbboafmmnpaaGreatDoorPart4
set_option maxRecDepth 100000
set_option maxHeartbeats 2000000
set_option linter.unusedSimpArgs false
set_option linter.unusedVariables false
namespace Go.Aw
open Go Go.Proofs
def Alike (d:Disk) (p:Plan) (d':Disk) (p':Plan):Prop:=∀b,b<6∨95≤b→plook d p b=plook d' p' b
theorem Alike.eget {d d':Disk} {p p':Plan} (h:Alike d p d' p') (t i:Int):eget d p t i=eget d' p' t i:=by
 unfold Aw.eget
 split
 ·rfl
 ·rename_i hr
  have hr':eRef t i=false:=by simpa using hr
  unfold eRef at hr'
  simp only [Bool.or_eq_false_iff,Bool.not_eq_false',decide_eq_false_iff_not] at hr'
  have:=hostOk_iff.1 hr'.1.1
  rw [h (96+2*t+i / 8) (by omega)]
theorem Alike.elook {d d':Disk} {p p':Plan} (h:Alike d p d' p') (t i:Int):elook d p t i=elook d' p' t i:=by
 unfold Aw.elook
 rw [h.eget,h.eget]
theorem Alike.reachJ {d d':Disk} {p p':Plan} (h:Alike d p d' p') (t:Int):∀ (m:Nat) (k:Int) (l:List Int),reachJ d p t m k l=reachJ d' p' t m k l
 |0,k,l=>rfl
 |m+1,k,l=>by rw [Aw.reachJ,Aw.reachJ,h.eget,h.reachJ t m]
theorem Alike.reachI {d d':Disk} {p p':Plan} (h:Alike d p d' p') (t:Int):∀ (m:Nat) (k:Int) (l:List Int),reachI d p t m k l=reachI d' p' t m k l
 |0,k,l=>rfl
 |m+1,k,l=>by rw [Aw.reachI,Aw.reachI,h.eget,h.reachJ,h.reachI t m,h.reachI t m]
theorem Alike.reach {d d':Disk} {p p':Plan} (h:Alike d p d' p') (t:Int):reach d p t=reach d' p' t:=h.reachI t _ _ _
theorem Alike.root {d d':Disk} {p p':Plan} (h:Alike d p d' p'):zy d p=zy d' p':=by
 unfold zy
 rw [h 1 (by omega)]
theorem Alike.snapsK {d d':Disk} {p p':Plan} (h:Alike d p d' p'):∀ (m i:Nat) (l:List Snp),m+i≤8→snapsK d p m i l=snapsK d' p' m i l
 |0,i,l,hm=>rfl
 |m+1,i,l,hm=>by rw [Aw.snapsK,Aw.snapsK,h (2+(i / 4:Nat)) (by omega),h.snapsK m (i+1) _ (by omega)]
theorem Alike.snaps {d d':Disk} {p p':Plan} (h:Alike d p d' p'):snaps d p=snaps d' p':=h.snapsK 8 0 [] (by omega)
theorem Alike.firsts {d d':Disk} (h:Alike d p0 d' p0):firsts d=firsts d':=by
 unfold Aw.firsts
 rw [h.root,h.snaps]
theorem Alike.cntK {d d':Disk} (h:Alike d p0 d' p0) (host:Int):∀ (l a:List Int),cntK d host l a=cntK d' host l a
 | [],a=>rfl
 |t::r,a=>by rw [Aw.cntK,Aw.cntK,h.reach,h.cntK host r]
theorem zqW (d:Disk) (b:Int):plook d p0 b=dread d b:=by
 have:¬0≤pfind p0.targets b:=by
  show ¬(0:Int)≤ -1
  decide
 unfold plook
 rw [if_neg this]
theorem Alike.read {d d':Disk} (h:Alike d p0 d' p0) (l1 g:Int):cread d l1 g=cread d' l1 g:=by
 unfold cread
 rw [h.elook]
 split
 ·rfl
 split
 ·rename_i hk
  have hh:=zis (d:=d') (p:=p0) (l1:=l1) (g:=g) hk
  have:=hostOk_iff.1 hh
  have hv:∀b,95≤b→dread d b=dread d' b:=fun b hb=>by rw [← zqW,← zqW];exact h b (.inr hb)
  unfold zdI
  rw [hv _ (by omega),hv _ (by omega)]
 ·rfl
theorem zns {d:Disk} {p:Plan} :∀ (m k:Nat) (l:List Int),(rallK d p m k l).2=0→(∀i,k≤i→i<k+m→(rget d p (i:Nat)).2=0)∧(rallK d p m k l).1=l++(List.range m).map (fun i=>(rget d p ((k+i:Nat):Int)).1)
 |0,k,l,h=>⟨fun i h1 h2=>by omega,by simp [rallK]⟩
 | m +1,k,l,h=>by
  rw [rallK] at h ⊢
  by_cases he:(rget d p k).2=0
  ·rw [if_neg (by omega)] at h ⊢
   have hk:((k:Int)+1)=((k+1:Nat):Int):=by omega
   rw [hk] at h ⊢
   obtain ⟨h1,h2⟩:=zns m (k+1) _ h
   refine ⟨fun i hi1 hi2=>?_,?_⟩
   ·by_cases e:i=k
    ·subst e;exact he
    ·exact h1 i (by omega) (by omega)
   ·have hm:(List.range m).map (fun i=>(rget d p ((k+1+i:Nat):Int)).1)=(List.range m).map ((fun i=>(rget d p ((k+i:Nat):Int)).1) ∘ Nat.succ):=by
     refine List.map_congr_left (fun i _=>?_)
     simp only [Function.comp]
     rw [show k+1+i=k+Nat.succ i by omega]
    rw [h2,List.range_succ_eq_map,List.map_cons,List.map_map,List.append_assoc,List.singleton_append,hm,Nat.add_zero]
  ·rw [if_pos he] at h
   exact absurd h he
theorem znt {d:Disk} {p:Plan} :∀ (m k:Nat) (l:List Int),(∀i,k≤i→i<k+m→(rget d p (i:Nat)).2=0)→(rallK d p m k l).2=0
 |0,k,l,h=>rfl
 |m+1,k,l,h=>by
  rw [rallK,if_neg (by have:=h k (Nat.le_refl _) (by omega);omega)]
  have hk:((k:Int)+1)=((k+1:Nat):Int):=by omega
  rw [hk]
  exact znt m (k+1) _ (fun i h1 h2=>h i (by omega) (by omega))
theorem zjs {d:Disk} {p:Plan} {n:Nat} (h:(rall d p n).2=0):n≤256∧(∀i,i<n→(rget d p (i:Nat)).2=0)∧(rall d p n).1=(List.range n).map (fun (i:Nat)=>(rget d p (i:Int)).1):=by
 unfold rall at h ⊢
 split at h
 ·exact absurd h (by simp)
 rename_i h1
 rw [if_neg h1]
 rw [Int.toNat_natCast] at h ⊢
 obtain ⟨h2,h3⟩:=zns n 0 [] h
 refine ⟨by omega,fun i hi=>h2 i (Nat.zero_le _) (by omega),?_⟩
 rw [show (0:Int)=((0:Nat):Int) from rfl,h3]
 simp
theorem zt7 {d:Disk} {p:Plan} {n:Nat} (hn:n≤256) (h:∀i,i<n→(rget d p (i:Nat)).2=0):(rall d p n).2=0:=by
 unfold rall
 rw [if_neg (by omega),Int.toNat_natCast]
 exact znt n 0 [] (fun i _ h2=>h i (by omega))
theorem zfa:∀ (k:Nat) (ws hs:List Int) (f:Fnd),f∈fnds k ws hs→∃i,f.loc=((k+i:Nat):Int)∧ws[i]?=some f.want∧hs[i]?=some f.have_∧f.have_≠f.want
 |k,[],hs,f,h=>by simp [fnds] at h
 |k,w::ws,[],f,h=>by simp [fnds] at h
 | k,w::ws,x::hs,f,h=>by
  rw [fnds] at h
  have hgo:f∈fnds (k+1) ws hs→∃i,f.loc=((k+i:Nat):Int)∧(w::ws)[i]?=some f.want∧(x::hs)[i]?=some f.have_∧f.have_≠f.want:=by
   intro h
   obtain ⟨i,h1,h2,h3,h4⟩:=zfa (k+1) ws hs f h
   exact ⟨i+1,by rw [h1];congr 1;omega,by simpa using h2,by simpa using h3,h4⟩
  split at h
  ·rename_i hne
   rcases List.mem_cons.1 h with rfl|h
   ·exact ⟨0,by simp,rfl,rfl,hne⟩
   ·exact hgo h
  ·exact hgo h
theorem zfb:∀ (k:Nat) (ws hs:List Int),(fnds k ws hs).Pairwise (fun a b=>a.loc<b.loc)
 |k,[],hs=>by simp [fnds]
 |k,w::ws,[]=>by simp [fnds]
 | k,w::ws,x::hs=>by
  rw [fnds]
  split
  ·refine List.Pairwise.cons (fun f hf=>?_) (zfb (k+1) ws hs)
   obtain ⟨i,h1,_⟩:=zfa _ _ _ _ hf
   show ((k:Nat):Int)<f.loc
   omega
  ·exact zfb (k+1) ws hs
theorem zk6:∀ (k:Nat) (ws hs:List Int) (i:Nat) (w x:Int),ws[i]?=some w→hs[i]?=some x→(fnds k ws hs).find? (fun f=>f.loc==((k+i:Nat):Int))=if x≠w then some ⟨((k+i:Nat):Int),w,x⟩ else none
 |k,[],hs,i,w,x,h1,h2=>by simp at h1
 |k,a::ws,[],i,w,x,h1,h2=>by simp at h2
 | k,a::ws,b::hs,0,w,x,h1,h2=>by
  have e1:a=w:=by simpa using h1
  have e2:b=x:=by simpa using h2
  subst e1 e2
  rw [fnds]
  have hno:(fnds (k+1) ws hs).find? (fun f=>f.loc==((k+0:Nat):Int))=none:=by
   rw [List.find?_eq_none]
   intro f hf
   obtain ⟨i,h1,_⟩:=zfa _ _ _ _ hf
   simp
   omega
  split
  ·simp
  ·exact hno
 | k,a::ws,b::hs,i+1,w,x,h1,h2=>by
  have ih:=zk6 (k+1) ws hs i w x (by simpa using h1) (by simpa using h2)
  rw [show k+1+i=k+(i+1) by omega] at ih
  rw [fnds]
  split
  ·rw [List.find?_cons_of_neg (by simp;omega)]
   exact ih
  ·exact ih
theorem znu {d:Disk} :∀ (l:List Fnd) (p:Plan),DP d p→l.Pairwise (fun a b=>a.loc<b.loc)→(addsK d l p).2=0→
  DP d (addsK d l p).1∧(∀b,b<87∨95≤b→plook d (addsK d l p).1 b=plook d p b)∧∀k,rget d (addsK d l p).1 k=match l.find? (fun f=>f.loc==k) with|some f=>((rget d p k).1+(f.want - f.have_),0)|none=>rget d p k
 | [],p,hp,hl,h=>⟨hp,fun _ _=>rfl,fun _=>rfl⟩
 | f ::r,p,hp,hl,h=>by
  rw [addsK] at h ⊢
  by_cases he:(radd d p f.loc (f.want - f.have_)).2=0
  ·rw [if_neg (by omega)] at h ⊢
   obtain ⟨hl1,hl2⟩:=List.pairwise_cons.1 hl
   obtain ⟨h1,h2,h3⟩:=znu r _ (hp.radd f.loc (f.want - f.have_)) hl2 h
   refine ⟨h1,fun b hb=>by rw [h2 b hb,zoL hp he hb],fun k=>?_⟩
   rw [h3 k,zqU hp he k]
   by_cases e:f.loc=k
   ·subst e
    have hno:r.find? (fun g=>g.loc==f.loc)=none:=by
     rw [List.find?_eq_none]
     intro g hg
     have:=hl1 g hg
     simp
     omega
    simp [hno]
   ·rw [List.find?_cons_of_neg (by simpa using e),if_neg (fun h=>e h.symm)]
  ·rw [if_pos he] at h
   exact absurd h he
theorem zoM {x:Img} {p:Plan} (h:(cdone x p).2=0):(jcommit x.disk x.jour p).2.2=0∧(cdone x p).1= { x with disk:=(jcommit x.disk x.jour p).1,jour:=(jcommit x.disk x.jour p).2.1 } :=by
 unfold cdone at h ⊢
 split at h
 ·rename_i h1;exact absurd h h1
 ·rename_i h1
  rw [if_neg h1]
  exact ⟨by simpa using h1,rfl⟩
theorem zqX {x:Img} (hx:ImgF x) (hh:0≤x.geom.host) (h:(amend x).2=0):
  (zK (amend x).1).2=0∧(zK (amend x).1).1= []∧(zy x.disk p0).2=0∧Alike x.disk p0 (amend x).1.disk p0:=by
 have hdp:DP x.disk p0:=⟨hx.disk,zb4⟩
 unfold amend at h ⊢
 split at h
 ·exact absurd h (by simp)
 rename_i hb
 rw [if_neg hb]
 split at h
 ·rename_i h1;exact absurd h h1
 rename_i h1
 have hc:(zK x).2=0:=by simpa using h1
 rw [if_neg h1]
 split at h
 ·rename_i h2;exact absurd h h2
 rename_i h2
 have ha:(addsK x.disk (zK x).1 p0).2=0:=by simpa using h2
 rw [if_neg h2]
 obtain ⟨hj,he⟩:=zoM h
 have hcl:(zK x).1.Pairwise (fun a b=>a.loc<b.loc):=by
  unfold zK
  split
  ·exact List.Pairwise.nil
  split
  ·exact List.Pairwise.nil
  ·exact zfb _ _ _
 obtain ⟨g1,g2,g3⟩:=znu _ _ hdp hcl ha
 obtain ⟨Q,hQ⟩:∃Q,Q=(addsK x.disk (zK x).1 p0).1:=⟨_,rfl⟩
 rw [← hQ] at g1 g2 g3 hj he h ⊢
 have hview:∀b,b<6∨87≤b→plook (cdone x Q).1.disk p0 b=plook x.disk Q b:=fun b hb=>by
  rw [he,zqW]
  exact zkZ hx.disk g1.p hj hb
 have hal:Alike x.disk p0 (cdone x Q).1.disk p0:=fun b hb=>by
  rw [hview b (by omega),g2 b (by omega)]
 have hrg:∀k,rget (cdone x Q).1.disk p0 k=rget x.disk Q k:=fun k=>by
  unfold rget
  split
  ·rfl
  ·rename_i hk
   have hk':zD k=true:=by simpa using hk
   have:=hostOk_iff.1 hk'
   rw [hview _ (by omega)]
 have hgeo:(cdone x Q).1.geom=x.geom:=by rw [he]
 have hc0:=hc
 unfold zK at hc0
 split at hc0
 ·rename_i h3;exact absurd hc0 h3
 rename_i h3
 split at hc0
 ·rename_i h4;exact absurd hc0 h4
 rename_i h4
 have hac:(zW x).2=0:=by simpa using h3
 have hra:(rall x.disk p0 x.geom.host).2=0:=by simpa using h4
 have hcx:(zK x).1=fnds 0 (zW x).1 (rall x.disk p0 x.geom.host).1:=by
  unfold zK
  rw [if_neg h3,if_neg h4]
 have hcnt:zW (cdone x Q).1=zW x:=by
  unfold zW
  rw [hgeo,← hal.firsts,← hal.cntK]
 obtain ⟨n,hn⟩:∃n:Nat,x.geom.host=n:=⟨x.geom.host.toNat,by omega⟩
 rw [hn] at hra hcx
 obtain ⟨hn1,hn2,hn3⟩:=zjs hra
 have hal1:(zW x).1=cnts n (cntK x.disk x.geom.host (firsts x.disk).1 []).1∧(firsts x.disk).2=0:=by
  unfold zW at hac ⊢
  split at hac
  ·rename_i h5;exact absurd hac h5
  rename_i h5
  split at hac
  ·rename_i h6;exact absurd hac h6
  rename_i h6
  rw [if_neg h5,if_neg h6,hn,Int.toNat_natCast]
  exact ⟨rfl,by simpa using h5⟩
 have hwl:(zW x).1.length=n:=by rw [hal1.1,za6]
 have hroot:(zy x.disk p0).2=0:=by
  have h5:=hal1.2
  unfold firsts at h5
  split at h5
  ·rename_i h6;exact absurd h5 h6
  ·rename_i h6;simpa using h6
 have hall:∀i,i<n→rget (cdone x Q).1.disk p0 (i:Nat)=((zW x).1.getD i 0,0):=by
  intro i hi
  obtain ⟨w,hw⟩:=zal (l:=(zW x).1) (i:=i) (by omega)
  have hv:(rall x.disk p0 n).1[i]?=some (rget x.disk p0 (i:Int)).1:=by rw [hn3];simp [hi]
  have hf:=zk6 0 (zW x).1 (rall x.disk p0 n).1 i w _ hw hv
  rw [Nat.zero_add] at hf
  rw [hrg,g3,hcx,hf,List.getD_eq_getElem?_getD,hw]
  by_cases e:(rget x.disk p0 (i:Int)).1=w
  ·rw [if_neg (by simpa using e)]
   simp only [Option.getD_some]
   rw [← e,← hn2 i hi]
  ·rw [if_pos (by simpa using e)]
   simp only [Option.getD_some]
   congr 1
   omega
 have hra2:(rall (cdone x Q).1.disk p0 n).2=0:=zt7 hn1 (fun i hi=>by rw [hall i hi])
 obtain ⟨_,_,hn4⟩:=zjs hra2
 have heq:(rall (cdone x Q).1.disk p0 n).1=(zW x).1:=by
  rw [hn4]
  apply List.ext_getElem?
  intro i
  rcases Nat.lt_or_ge i n with hi|hi
  ·rw [List.getElem?_map,List.getElem?_range hi]
   simp only [Option.map_some]
   rw [hall i hi]
   obtain ⟨w,hw⟩:=zal (l:=(zW x).1) (i:=i) (by omega)
   rw [List.getD_eq_getElem?_getD,hw]
   rfl
  ·rw [List.getElem?_eq_none (by simp;omega),List.getElem?_eq_none (by omega)]
 have hsame:∀ (l:List Int) (k:Nat),fnds k l l= []:=by
  intro l
  induction l with
  |nil=>intro k;rfl
  |cons a l ih=>intro k;rw [fnds,if_neg (fun h=>h rfl)];exact ih _
 have hfin:zK (cdone x Q).1=([],0):=by
  unfold zK
  rw [hcnt,hgeo,hn,if_neg (by omega),if_neg (by omega),heq,hsame]
 rw [hfin]
 exact ⟨rfl,rfl,hroot,hal⟩
open Go Go.Proofs
theorem zk7 (x:Img) (h:ImgF x):AC 49 [imgA x] (.tup [.d (.sl 1 ((firsts x.disk).1.map intD)),.d (.int .i64 (firsts x.disk).2)]):=by
 refine fbod Tryz.func49 Tryz.ntmps49 (fun base=>?_)
 have hdp:DP x.disk p0:=⟨h.disk,zb4⟩
 obtain ⟨R,hR⟩:∃R,R=zy x.disk p0:=⟨_,rfl⟩
 obtain ⟨L,hL⟩:∃L,L=snaps x.disk p0:=⟨_,rfl⟩
 have hff:firsts x.disk=if R.2≠0 then ([],R.2) else if L.2≠0 then ([],L.2) else (R.1.l1::(L.1.filter (fun s=>s.id !=0)).map (·.l1),0):=by rw [firsts,hR,hL]
 have hll:L.1.length≤8:=by rw [hL];exact ze4
 (have tk:=za z8 <| za zco <| zb Tryz.prog;have fx:=(⟨hR.symm,hL.symm⟩:_∧_);repeat' (first|(refine hK _ ?_;clear hK K)|refine wa fun K hK=>?_|refine wb ?_|refine wc ?_ ?_|refine fun (nb:Bool) (hnb:nb=true→_)=>?_|exact we|refine fun (hc:_=(_:Bool))=>?_|clear hK K))
 ·rw [hff,if_pos (bneP hc)]
  rfl
 ·rename_i h0
  rw [hff,if_neg (bneN h0),if_pos (bneP hc)]
  rfl
 rename_i h0
 rw [if_neg (bneN h0),if_neg (bneN hc)] at hff
 refine zn (fun q: { q:Nat×List Int // q.1≤L.1.length∧q.2.length≤q.1+1∧q.2=R.1.l1::((L.1.take q.1).filter (fun s=>s.id !=0)).map (·.l1) } =>⟨[(6,true,.d (.sl 3 (L.1.map snpD))),(7,true,.osl 2 1 q.1.2.length 0 q.1.2.length),(8,true,.d (.int .i64 q.1.1))],[(2,.arr 1 (q.1.2.map intD))],some []⟩) (fun q=>L.1.length - q.1.1) ⟨(0,[R.1.l1]),Nat.zero_le _,Nat.le_refl _,rfl⟩ le1 (fun q=>?_)
 obtain ⟨⟨i,l⟩,hi,hlen,hl⟩:=q
 simp only at hi hlen hl ⊢
 rcases zG snpD L.1 i hi with ⟨s,hq,hlt,hcmp,hrow,hdr,htk⟩|⟨hend,hcmp⟩
 ·simp only [snpD] at hrow
  have hwi:=zq (i:=i) (by omega)
  (have tk:=za z8 <| za zco <| zb Tryz.prog;have fx:=(⟨hcmp,hrow⟩:_∧_);repeat' (first|(refine hK _ ?_;clear hK K)|refine wa fun K hK=>?_|refine wb ?_|refine wc ?_ ?_|refine fun (nb:Bool) (hnb:nb=true→_)=>?_|exact we|refine fun (hc:_=(_:Bool))=>?_|clear hK K))
  ·have hl2:l++ [s.l1]=R.1.l1::((L.1.take (i+1)).filter (fun s=>s.id !=0)).map (·.l1):=by rw [hl,htk,List.filter_append];simp [hc]
   exact ⟨⟨(i+1,l++ [s.l1]),by omega,by simp;omega,hl2⟩,by simp only [List.map_append,List.length_append,List.length_singleton];simp only [AS.le,leT,leH,zc,AsgK,AV.le,AV.leL,AObj.le,inH,idsT,idsH,AV.ids,AV.idsL,AV.idsR,AObj.ids,lk,hget,go_sem,aeq,aeq.aeqF,simprocAttr,hwi]<;>and_intros<;>rfl,by simp;omega⟩
  ·have hl2:l=R.1.l1::((L.1.take (i+1)).filter (fun s=>s.id !=0)).map (·.l1):=by rw [hl,htk,List.filter_append];simp [hc]
   exact ⟨⟨(i+1,l),by omega,by simp only;omega,hl2⟩,lew,by simp;omega⟩
 ·(have tk:=za z8 <| za zco <| zb Tryz.prog;have fx:=hcmp;repeat' (first|(refine hK _ ?_;clear hK K)|refine wa fun K hK=>?_|refine wb ?_|refine wc ?_ ?_|refine fun (nb:Bool) (hnb:nb=true→_)=>?_|exact we|refine fun (hc:_=(_:Bool))=>?_|clear hK K))
  rw [hff,hl,hend,List.take_length]
@[go_sem] noncomputable def zad:Ent Tryz.prog 49:= .m1 zci zk7
theorem znv {n k:Nat} (a:List Int) (h:k<n):((cnts n a).map intD).getD k []= [.int .i64 ((a.count (k:Int):Nat):Int)]:=by
 rw [zcf (g:=intD) (zgm a h)];rfl
theorem znw {n k:Nat} (a:List Int) (h:k<n):((cnts n a).map intD).set k [.int .i64 (((a.count (k:Int):Nat):Int)+1)]=(cnts n (a++ [(k:Int)])).map intD:=by
 rw [← znr a h,List.map_set];rfl
theorem zsJ (n:Nat):List.replicate n [D.int .i64 0]=(cnts n []).map intD:=by
 unfold cnts
 rw [List.map_map]
 apply List.ext_getElem (by simp)
 intro i h1 h2
 simp [intD]
theorem zgn {a:List Int} {k:Int} {m:Nat} (h:a.length≤m):a.count k≤m:=Nat.le_trans List.count_le_length h
theorem zfI (d:Disk):(firsts d).1.length≤9:=by
 unfold firsts
 split
 ·exact Nat.zero_le _
 split
 ·exact Nat.zero_le _
 ·have h1:=ze4 (d:=d) (p:=p0)
  have h2:=List.length_filter_le (fun s:Snp=>s.id !=0) (snaps d p0).1
  simp only [List.length_cons,List.length_map]
  omega
theorem ziB (d:Disk):∀t∈(firsts d).1,0≤t∧t≤65535:=by
 unfold firsts
 split
 ·intro t ht;cases ht
 rename_i h0
 split
 ·intro t ht;cases ht
 ·intro t ht
  rcases List.mem_cons.1 ht with rfl|ht
  ·unfold zy at h0 ⊢
   split
   ·rename_i h1;rw [if_pos h1] at h0;exact absurd h1 h0
   ·unfold rootT
    repeat' split
    all_goals first|decide|skip
    have:=zel (plook d p0 1).1
    exact ⟨this.1,this.2.1⟩
  ·obtain ⟨s,hs,rfl⟩:=List.mem_map.1 ht
   have:=(zkP s (List.mem_filter.1 hs).1).l1
   omega
theorem zmw (x:Img) (hp:ImgF x∧0≤x.geom.host):AC 12 [imgA x] (.tup [.d (.sl 1 ((zW x).1.map intD)),.d (.int .i64 (zW x).2)]):=by
 obtain ⟨h,hh⟩:=hp
 refine fbod Tryz.func12 Tryz.ntmps12 (fun base=>?_)
 have hdp:DP x.disk p0:=⟨h.disk,zb4⟩
 have hho:=h.host
 obtain ⟨F,hF⟩:∃F,F=firsts x.disk:=⟨_,rfl⟩
 obtain ⟨n,hn⟩:∃n:Nat,x.geom.host=n:=⟨x.geom.host.toNat,by omega⟩
 have hac:zW x=if F.2≠0 then ([],F.2) else if (cntK x.disk n F.1 []).2≠0 then ([],(cntK x.disk n F.1 []).2) else (cnts n (cntK x.disk n F.1 []).1,0):=by rw [zW,hF,hn,Int.toNat_natCast]
 have hfl:F.1.length≤9:=by rw [hF];exact zfI _
 have hfr:∀t∈F.1,0≤t∧t≤65535:=by rw [hF];exact ziB _
 by_cases hf:F.2=0
 ·have hb:(F.2 !=0)=false:=by simpa using hf
  rw [if_neg (by simpa using hf)] at hac
  have hnt:x.geom.host.toNat=n:=by omega
  (have tk:=za zad <| za zS <| zb Tryz.prog;have fx:=(⟨hF.symm,hb,hnt⟩:_∧_∧_);repeat' (first|(refine hK _ ?_;clear hK K)|refine wa fun K hK=>?_|refine wb ?_|refine wc ?_ ?_|refine fun (nb:Bool) (hnb:nb=true→_)=>?_|exact we|refine fun (hc:_=(_:Bool))=>?_|clear hK K))
  refine zn (fun q: { q:Nat×List Int // q.1≤F.1.length∧q.2.length≤69*q.1∧cntK x.disk n F.1 []=cntK x.disk n (F.1.drop q.1) q.2 } =>⟨[(1,true,.vp 0 0),(4,true,.d (.sl 1 (F.1.map intD))),(6,true,.osl 1 1 n 0 n),(7,true,.d (.int .i64 q.1.1))],[(1,.arr 1 ((cnts n q.1.2).map intD)),(0,.var (imgV x))],some []⟩) (fun q=>F.1.length - q.1.1) ⟨(0,[]),Nat.zero_le _,Nat.zero_le _,rfl⟩ (by simp only [AS.le,leT,leH,zc,AsgK,AV.le,AV.leL,AObj.le,inH,idsT,idsH,AV.ids,AV.idsL,AV.idsR,AObj.ids,lk,hget,go_sem,aeq,aeq.aeqF,simprocAttr,zsJ]<;>and_intros<;>rfl) (fun q=>?_)
  obtain ⟨⟨i,a⟩,hi,hal,hk⟩:=q
  simp only at hi hal hk ⊢
  rcases zG intD F.1 i hi with ⟨t,hq,hlt,hcmp,hrow,hdr,htk⟩|⟨hend,hcmp⟩
  ·simp only [intD] at hrow
   have hwi:=zq (i:=i) (by omega)
   have htr:=hfr t (List.mem_of_getElem? hq)
   obtain ⟨k,rfl⟩:∃k:Nat,t=k:=⟨t.toNat,by omega⟩
   rw [hdr,cntK] at hk
   by_cases hkn:n≤k
   ·have hc1:decide (x.geom.host≤(k:Int))=true:=decide_eq_true (by omega)
    rw [if_pos (by omega)] at hk
    (have tk:=za zad <| za zS <| zb Tryz.prog;have fx:=(⟨hcmp,hrow,hc1⟩:_∧_∧_);repeat' (first|(refine hK _ ?_;clear hK K)|refine va fun K hK=>?_|refine vb ?_|refine wc ?_ ?_|refine fun (nb:Bool) (hnb:nb=true→_)=>?_|exact we|refine fun (hc:_=(_:Bool))=>?_|clear hK K))
    rw [hac,hk,if_pos (by simp)]
    rfl
   have hc1:decide (x.geom.host≤(k:Int))=false:=decide_eq_false (by omega)
   rw [if_neg (by omega)] at hk
   have hkl:k<n:=by omega
   have hr1:=znv a hkl
   have hs1:=znw a hkl
   have hcl:=zgn (k:=(k:Int)) hal
   have hw1:IntKind.i64.wrap (((a.count (k:Int):Nat):Int)+1)=((a.count (k:Int):Nat):Int)+1:=zh (by omega) (by omega)
   obtain ⟨W,hW⟩:∃W,W=reach x.disk p0 k:=⟨_,rfl⟩
   rw [← hW] at hk
   have hWr:∀y∈W.1,0≤y∧y<256:=by rw [hW];exact zk2
   have hWl:W.1.length≤68:=by rw [hW];exact ze9
   by_cases hWe:W.2=0
   ·have hb2:(W.2 !=0)=false:=by simpa using hWe
    rw [if_neg (by simpa using hWe)] at hk
    have hcn:((cnts n a).map intD).length=n:=by rw [List.length_map,za6]
    (have tk:=za zad <| za zS <| zb Tryz.prog;have fx:=(⟨hcmp,hrow,hc1,@Int.toNat_natCast,hr1,hs1,hw1,@za6,hW.symm,hb2⟩:_∧_∧_∧_∧_∧_∧_∧_∧_∧_);repeat' (first|(refine hK _ ?_;clear hK K)|refine va fun K hK=>?_|refine vb ?_|refine wc ?_ ?_|refine fun (nb:Bool) (hnb:nb=true→_)=>?_|exact we|refine fun (hc:_=(_:Bool))=>?_|clear hK K))
    refine zn (fun q: { j:Nat // j≤W.1.length∧∀y∈W.1.take j,y<n } =>⟨[(1,true,.vp 0 0),(4,true,.d (.sl 1 (F.1.map intD))),(6,true,.osl 1 1 n 0 n),(7,true,.d (.int .i64 i)),(8,true,.d (.sl 1 (W.1.map intD))),(10,true,.d (.int .i64 q.1))],[(1,.arr 1 ((cnts n (a++ [(k:Int)]++W.1.take q.1)).map intD)),(0,.var (imgV x))],some []⟩) (fun q=>W.1.length - q.1) ⟨0,Nat.zero_le _,fun y hy=>by simp at hy⟩ (by simp only [AS.le,leT,leH,zc,AsgK,AV.le,AV.leL,AObj.le,inH,idsT,idsH,AV.ids,AV.idsL,AV.idsR,AObj.ids,lk,hget,go_sem,aeq,aeq.aeqF,simprocAttr,List.append_nil]<;>and_intros<;>rfl) (fun q=>?_)
    obtain ⟨j,hj,hjn⟩:=q
    simp only at hj hjn ⊢
    rcases zG intD W.1 j hj with ⟨y,hqy,hlty,hcmpy,hrowy,hdry,htky⟩|⟨hendy,hcmpy⟩
    ·simp only [intD] at hrowy
     have hwj:=zq (i:=j) (by omega)
     have hyr:=hWr y (List.mem_of_getElem? hqy)
     obtain ⟨m,rfl⟩:∃m:Nat,y=m:=⟨y.toNat,by omega⟩
     by_cases hmn:n≤m
     ·have hc2:decide (x.geom.host≤(m:Int))=true:=decide_eq_true (by omega)
      (have tk:=za zad <| za zS <| zb Tryz.prog;have fx:=(⟨hcmpy,hrowy,hc2⟩:_∧_∧_);repeat' (first|(refine hK _ ?_;clear hK K)|refine va fun K hK=>?_|refine vb ?_|refine wc ?_ ?_|refine fun (nb:Bool) (hnb:nb=true→_)=>?_|exact we|refine fun (hc:_=(_:Bool))=>?_|clear hK K))
      have:W.1.any (fun k=>decide ((n:Int)≤k))=true:=List.any_eq_true.2 ⟨m,List.mem_of_getElem? hqy,decide_eq_true (by omega)⟩
      rw [this,if_pos rfl] at hk
      rw [hac,hk,if_pos (by simp)]
      rfl
     ·have hc2:decide (x.geom.host≤(m:Int))=false:=decide_eq_false (by omega)
      have hml:m<n:=by omega
      obtain ⟨A,hA⟩:∃A,A=a++ [(k:Int)]++W.1.take j:=⟨_,rfl⟩
      have hAl:A.length≤69*i+69:=by rw [hA];simp only [List.length_append,List.length_take,List.length_singleton];omega
      have hr2:=znv A hml
      have hs2:=znw A hml
      have hcl2:=zgn (k:=(m:Int)) hAl
      have hw2:IntKind.i64.wrap (((A.count (m:Int):Nat):Int)+1)=((A.count (m:Int):Nat):Int)+1:=zh (by omega) (by omega)
      have hA2:A++ [(m:Int)]=a++ [(k:Int)]++W.1.take (j+1):=by rw [hA,htky,List.append_assoc]
      rw [← hA]
      (have tk:=za zad <| za zS <| zb Tryz.prog;have fx:=(⟨hcmpy,hrowy,hc2,@Int.toNat_natCast,hr2,hs2,hw2,@za6⟩:_∧_∧_∧_∧_∧_∧_∧_);repeat' (first|(refine hK _ ?_;clear hK K)|refine va fun K hK=>?_|refine vb ?_|refine wc ?_ ?_|refine fun (nb:Bool) (hnb:nb=true→_)=>?_|exact we|refine fun (hc:_=(_:Bool))=>?_|clear hK K))
      have hjn2:∀y∈W.1.take (j+1),y<n:=by
       intro y hy
       rw [htky] at hy
       rcases List.mem_append.1 hy with hy|hy
       ·exact hjn y hy
       ·rw [List.mem_singleton] at hy;omega
      exact ⟨⟨j+1,by omega,hjn2⟩,by rw [hA2];simp only [AS.le,leT,leH,zc,AsgK,AV.le,AV.leL,AObj.le,inH,idsT,idsH,AV.ids,AV.idsL,AV.idsR,AObj.ids,lk,hget,go_sem,aeq,aeq.aeqF,simprocAttr,hwj],by simp;omega⟩
    ·(have tk:=za zad <| za zS <| zb Tryz.prog;have fx:=hcmpy;repeat' (first|(refine hK _ ?_;clear hK K)|refine va fun K hK=>?_|refine vb ?_|refine wc ?_ ?_|refine fun (nb:Bool) (hnb:nb=true→_)=>?_|exact we|refine fun (hc:_=(_:Bool))=>?_|clear hK K))
     have hWt:W.1.take j=W.1:=by rw [hendy,List.take_length]
     rw [hWt] at hjn ⊢
     have hno:¬W.1.any (fun k=>decide ((n:Int)≤k))=true:=by
      rw [List.any_eq_true]
      rintro ⟨y,hy,h2⟩
      have:=hjn y hy
      have:=of_decide_eq_true h2
      omega
     rw [if_neg hno] at hk
     have hper:cnts n (a++ [(k:Int)]++W.1)=cnts n (a++(W.1++ [(k:Int)])):=zqV (by rw [List.append_assoc];exact List.Perm.append_left a List.perm_append_comm)
     rw [hper]
     exact ⟨⟨(i+1,a++(W.1++ [(k:Int)])),by omega,by simp only [List.length_append,List.length_singleton];omega,hk⟩,lew,by simp;omega⟩
   ·have hb2:(W.2 !=0)=true:=by simpa using hWe
    rw [if_pos hWe] at hk
    (have tk:=za zad <| za zS <| zb Tryz.prog;have fx:=(⟨hcmp,hrow,hc1,@Int.toNat_natCast,hr1,hs1,hw1,@za6,hW.symm,hb2⟩:_∧_∧_∧_∧_∧_∧_∧_∧_∧_);repeat' (first|(refine hK _ ?_;clear hK K)|refine va fun K hK=>?_|refine vb ?_|refine wc ?_ ?_|refine fun (nb:Bool) (hnb:nb=true→_)=>?_|exact we|refine fun (hc:_=(_:Bool))=>?_|clear hK K))
    rw [hac,hk,if_pos hWe]
    rfl
  ·(have tk:=za zad <| za zS <| zb Tryz.prog;have fx:=hcmp;repeat' (first|(refine hK _ ?_;clear hK K)|refine va fun K hK=>?_|refine vb ?_|refine wc ?_ ?_|refine fun (nb:Bool) (hnb:nb=true→_)=>?_|exact we|refine fun (hc:_=(_:Bool))=>?_|clear hK K))
   have hk2:cntK x.disk n F.1 []=(a,0):=by rw [hk,hend,List.drop_length];rfl
   have hac2:zW x=(cnts n a,0):=by rw [hac,hk2,if_neg (by simp)]
   rw [hac2,if_pos (za6 n a).symm,List.take_of_length_le (by rw [List.length_map,za6];exact Nat.le_refl _)]
 ·have hb:(F.2 !=0)=true:=by simpa using hf
  (have tk:=za zad <| za zS <| zb Tryz.prog;have fx:=(⟨hF.symm,hb⟩:_∧_);repeat' (first|(refine hK _ ?_;clear hK K)|refine wa fun K hK=>?_|refine wb ?_|refine wc ?_ ?_|refine fun (nb:Bool) (hnb:nb=true→_)=>?_|exact we|refine fun (hc:_=(_:Bool))=>?_|clear hK K))
  rw [hac,if_pos hf]
  rfl
@[go_sem] noncomputable def zbJ:Ent Tryz.prog 12:= .m1 zci zmw
theorem zeo {x:Img} (h:(zW x).2=0):(zW x).1.length=x.geom.host.toNat:=by
 unfold zW at h ⊢
 split at h
 ·rename_i h1;exact absurd h h1
 rename_i h1
 split at h
 ·rename_i h2;exact absurd h h2
 rename_i h2
 rw [if_neg h1,if_neg h2]
 exact za6 _ _
theorem zsK {d:Disk} {p:Plan} {n:Int} (h:(rall d p n).2=0):((rall d p n).1.length:Int)=n:=by
 have h0:¬(n<0∨256<n):=by
  intro hc
  unfold rall at h
  rw [if_pos hc] at h
  simp at h
 obtain ⟨m,rfl⟩:∃m:Nat,n=m:=⟨n.toNat,by omega⟩
 rw [(zjs h).2.2]
 simp
theorem zqZ (k:Nat) (w x:Int) (ws hs:List Int):fnds k (w::ws) (x::hs)=(if x≠w then [(⟨k,w,x⟩:Fnd)] else [])++fnds (k+1) ws hs:=by
 rw [fnds]
 split<;>rfl
open Go Go.Proofs
theorem znx {d:Disk} {host:Int} :∀ (l a:List Int),(cntK d host l a).1.length≤a.length+69*l.length
 | [],a=>by simp [cntK]
 |t::r,a=>by
  rw [cntK]
  have hr:=ze9 (d:=d) (p:=p0) (t:=t)
  repeat' split
  all_goals first|exact Nat.zero_le _|skip
  refine Nat.le_trans (znx r _) ?_
  simp only [List.length_append,List.length_nil,List.length_cons]
  omega
theorem zoN {x:Img} {w:Int} (h:w∈(zW x).1):0≤w∧w≤1000:=by
 unfold zW at h
 split at h
 ·cases h
 split at h
 ·cases h
 ·unfold cnts at h
  obtain ⟨k,_,rfl⟩:=List.mem_map.1 h
  have h1:=znx (d:=x.disk) (host:=x.geom.host) (firsts x.disk).1 []
  have h2:=zfI x.disk
  have h3:=zgn (k:=((k:Nat):Int)) (Nat.le_refl (cntK x.disk x.geom.host (firsts x.disk).1 []).1.length)
  simp only [List.length_nil] at h1
  omega
theorem zsL {d:Disk} {p:Plan} {n:Int} {w:Int} (he:(rall d p n).2=0) (h:w∈(rall d p n).1):0≤w∧w≤65535:=by
 have h0:¬(n<0∨256<n):=by
  intro hc
  unfold rall at he
  rw [if_pos hc] at he
  simp at he
 obtain ⟨m,rfl⟩:∃m:Nat,n=m:=⟨n.toNat,by omega⟩
 rw [(zjs he).2.2] at h
 obtain ⟨k,_,rfl⟩:=List.mem_map.1 h
 exact zcW d p k
theorem zoO {x:Img} {f:Fnd} (h:f∈(zK x).1):(0≤f.want∧f.want≤1000)∧(0≤f.have_∧f.have_≤65535)∧0≤f.loc:=by
 unfold zK at h
 split at h
 ·cases h
 split at h
 ·cases h
 ·rename_i h1 h2
  obtain ⟨i,h3,h4,h5,_⟩:=zfa _ _ _ _ h
  exact ⟨zoN (List.mem_of_getElem? h4),zsL (by simpa using h2) (List.mem_of_getElem? h5),by omega⟩
theorem zny:∀ (k:Nat) (ws hs:List Int),(fnds k ws hs).length≤ws.length
 |_,[],_=>Nat.le_refl _
 |_,_::_,[]=>Nat.zero_le _
 |k,w::ws,h::hs=>by
  have:=zny (k+1) ws hs
  rw [fnds]
  split<;>simp only [List.length_cons]<;>omega
theorem zep {x:Img} (h:ImgF x):(zK x).1.length≤256:=by
 unfold zK
 split
 ·exact Nat.zero_le _
 split
 ·exact Nat.zero_le _
 ·rename_i h1 h2
  have h3:=zny 0 (zW x).1 (rall x.disk p0 x.geom.host).1
  have h4:=zeo (x:=x) (by simpa using h1)
  have:=h.host
  simp only
  omega
theorem zq0 (a b:List Fnd) (ha:a.length≤9223372036854775807):AC 18 [.d (.sl 3 (a.map fndD)),.d (.sl 3 (b.map fndD))] (.d (.bool (decide (a=b)))):=by
 refine fbod Tryz.func18 Tryz.ntmps18 (fun base=>?_)
 by_cases hl:a.length=b.length
 ·have hb:((a.length:Int) !=(b.length:Int))=false:=by simp [hl]
  (have fx:=hb;repeat' (first|(refine hK _ ?_;clear hK K)|refine wa fun K hK=>?_|refine wb ?_|refine wc ?_ ?_|exact we|refine fun (hc:_=(_:Bool))=>?_|clear hK K))
  refine zn (fun q: { i:Nat // i≤a.length∧a.take i=b.take i } =>⟨[(0,true,.d (.sl 3 (a.map fndD))),(1,true,.d (.sl 3 (b.map fndD))),(5,true,.d (.int .i64 q.1))],[],some []⟩) (fun q=>a.length - q.1) ⟨0,Nat.zero_le _,rfl⟩ le0 (fun q=>?_)
  obtain ⟨i,hi,ht⟩:=q
  simp only at hi ht ⊢
  rcases zG fndD a i hi with ⟨u,hq,hlt,hcmp,hrow,hdr,htk⟩|⟨hend,hcmp⟩
  ·obtain ⟨v,hv⟩:=zal (l:=b) (i:=i) (by omega)
   have hrow2:=zcf (g:=fndD) hv
   simp only [fndD] at hrow hrow2
   have hwi:=zq (i:=i) (by omega)
   have hes:(u.loc==v.loc&&(u.want==v.want&&u.have_==v.have_))=decide (u=v):=by
    obtain ⟨_,_,_⟩:=u
    obtain ⟨_,_,_⟩:=v
    simp only [Fnd.mk.injEq,Bool.decide_and]
    rfl
   by_cases e:u=v
   ·have he:decide (u=v)=true:=decide_eq_true e
    (have fx:=(⟨hcmp,hrow,hrow2,hes,he⟩:_∧_∧_∧_∧_);repeat' (first|(refine hK _ ?_;clear hK K)|refine va fun K hK=>?_|refine vb ?_|refine wc ?_ ?_|exact we|refine fun (hc:_=(_:Bool))=>?_|clear hK K))
    exact ⟨⟨i+1,by omega,by rw [htk,zbm hv,ht,e]⟩,lew,by simp;omega⟩
   ·have he:decide (u=v)=false:=decide_eq_false e
    (have fx:=(⟨hcmp,hrow,hrow2,hes,he⟩:_∧_∧_∧_∧_);repeat' (first|(refine hK _ ?_;clear hK K)|refine va fun K hK=>?_|refine vb ?_|refine wc ?_ ?_|exact we|refine fun (hc:_=(_:Bool))=>?_|clear hK K))
    rw [decide_eq_false]
    rintro rfl
    rw [hq] at hv
    exact e (Option.some.inj hv)
  ·(have fx:=hcmp;repeat' (first|(refine hK _ ?_;clear hK K)|refine wa fun K hK=>?_|refine wb ?_|refine wc ?_ ?_|exact we|refine fun (hc:_=(_:Bool))=>?_|clear hK K))
   rw [decide_eq_true]
   rw [hend,List.take_length,hl,List.take_length] at ht
   exact ht
 ·have hb:((a.length:Int) !=(b.length:Int))=true:=by simp;omega
  (have fx:=hb;repeat' (first|(refine hK _ ?_;clear hK K)|refine wa fun K hK=>?_|refine wb ?_|refine wc ?_ ?_|exact we|refine fun (hc:_=(_:Bool))=>?_|clear hK K))
  rw [decide_eq_false]
  rintro rfl
  exact hl rfl
@[go_sem] noncomputable def zmx:Ent Tryz.prog 18:= .m2 (slT 3 fndD zc2) (slT 3 fndD zc2) zq0
open Go Go.Proofs
def rlJ (d:Disk) (p:Plan) (t:Int):Nat→Nat→List Int×Int
 |0,_=>([],0)
 |m+1,k=>if (eget d p t k).2≠0 then ([],(eget d p t k).2) else if (eget d p t k).1.kind=1 then ((eget d p t k).1.loc::(rlJ d p t m (k+1)).1,(rlJ d p t m (k+1)).2) else rlJ d p t m (k+1)
def rlI (d:Disk) (p:Plan) (l1:Int):Nat→Nat→List Int×Int
 |0,_=>([],0)
 |m+1,i=>if (eget d p l1 i).2≠0 then ([],(eget d p l1 i).2) else if (eget d p l1 i).1.kind=2 then ([],14) else if (eget d p l1 i).1.kind=0 then rlI d p l1 m (i+1)
  else if (rlJ d p (eget d p l1 i).1.loc 16 0).2≠0 then ((eget d p l1 i).1.loc::(rlJ d p (eget d p l1 i).1.loc 16 0).1,(rlJ d p (eget d p l1 i).1.loc 16 0).2)
  else ((eget d p l1 i).1.loc::((rlJ d p (eget d p l1 i).1.loc 16 0).1++(rlI d p l1 m (i+1)).1),(rlI d p l1 m (i+1)).2)
theorem zle {d:Disk} {p:Plan} {t:Int} :∀ (m k:Nat) (l:List Int),reachJ d p t m k l=if (rlJ d p t m k).2≠0 then ([],(rlJ d p t m k).2) else (l++(rlJ d p t m k).1,0)
 |0,k,l=>by simp [reachJ,rlJ]
 | m+1,k,l=>by
  rw [reachJ,rlJ,show ((k:Int)+1)=((k+1:Nat):Int) by omega,zle m (k+1)]
  by_cases h1:(eget d p t k).2=0<;>by_cases h2:(eget d p t k).1.kind=1<;>
   simp only [h1,h2,ne_eq,not_true_eq_false,not_false_eq_true,if_true,if_false,List.append_assoc,List.singleton_append]
theorem zlf {d:Disk} {p:Plan} {l1:Int} :∀ (m i:Nat) (l:List Int),reachI d p l1 m i l=if (rlI d p l1 m i).2≠0 then ([],(rlI d p l1 m i).2) else (l++(rlI d p l1 m i).1,0)
 |0,i,l=>by simp [reachI,rlI]
 | m+1,i,l=>by
  rw [reachI,rlI,show ((i:Int)+1)=((i+1:Nat):Int) by omega]
  have hJ:=zle (d:=d) (p:=p) (t:=(eget d p l1 i).1.loc) 16 0 (l++ [(eget d p l1 i).1.loc])
  rw [show ((0:Nat):Int)=0 from rfl] at hJ
  by_cases h1:(eget d p l1 i).2=0<;>by_cases h2:(eget d p l1 i).1.kind=2<;>by_cases h3:(eget d p l1 i).1.kind=0<;>by_cases h4:(rlJ d p (eget d p l1 i).1.loc 16 0).2=0<;>
   simp only [h1,h2,h3,h4,hJ,zlf m (i+1),ne_eq,not_true_eq_false,not_false_eq_true,if_true,if_false,List.append_assoc,List.singleton_append,List.cons_append,List.nil_append,show ¬(0:Int)=2 by decide,show ¬(14:Int)=0 by decide,show ¬(2:Int)=0 by decide]
theorem zsP {d:Disk} {p:Plan} {l1:Int} :reach d p l1=if (rlI d p l1 4 0).2≠0 then ([],(rlI d p l1 4 0).2) else ((rlI d p l1 4 0).1,0):=by
 have:=zlf (d:=d) (p:=p) (l1:=l1) 4 0 []
 rw [show ((0:Nat):Int)=0 from rfl,List.nil_append] at this
 exact this
theorem zq7 {d:Disk} {p:Plan} {t:Int} :∀ (m k:Nat),(rlJ d p t m k).1.length≤m
 |0,k=>Nat.le_refl _
 |m+1,k=>by
  have:=zq7 (d:=d) (p:=p) (t:=t) m (k+1)
  rw [rlJ]
  repeat' split
  all_goals first|exact Nat.zero_le _|(simp only [List.length_cons];omega)|omega
theorem zq8 {d:Disk} {p:Plan} {l1:Int} :∀ (m i:Nat),(rlI d p l1 m i).1.length≤17*m
 |0,k=>Nat.le_refl _
 |m+1,k=>by
  have h1:=zq8 (d:=d) (p:=p) (l1:=l1) m (k+1)
  have h2:=zq7 (d:=d) (p:=p) (t:=(eget d p l1 k).1.loc) 16 0
  rw [rlI]
  repeat' split
  all_goals first|exact Nat.zero_le _|(simp only [List.length_cons,List.length_append];omega)|omega
def intI (k:Int):List AV:= [.d (.int .i64 k)]
@[go_sem] abbrev hRea (d:Disk) (p:Plan) (l1 e:Int):AHeap:= [(5,.var (wkP p ⟨0,0⟩ d e)),(11,.var [.d (.int .i64 l1)]),(10,.var [.vp 5 0])]
theorem zlg (d:Disk) (p:Plan) (l1:Int) (h:DP d p):AIter Tryz.prog 195 20 [] [.vp 10 0,.vp 11 0] (hRea d p l1 0) ((rlI d p l1 4 0).1.map intI) (fun gg h'=>(∀xs,gg=some xs→xs=(rlI d p l1 4 0).1.map intI)∧∃e,h'=hRea d p l1 e∧(gg≠none→e=(rlI d p l1 4 0).2)):=by
 obtain ⟨L,hL⟩:∃L,L=rlI d p l1 4 0:=⟨_,rfl⟩
 rw [← hL]
 refine itr Tryz.func195 Tryz.ntmps195 (fun base y=>?_)
 (have tk:=zb Tryz.prog);repeat' (first|(refine zo (fun i=>decide (i<20)) (by simp only [inH,idsH,hsel,AV.ids,AV.idsL,AV.idsR,AObj.ids,hget,go_sem,aeq,aeq.aeqF,simprocAttr]) ?_;simp only [go_sem,aeq,aeq.aeqF,simprocAttr,hRea,hsel,keepT];refine zu ?_;simp only [go_sem,aeq,aeq.aeqF,simprocAttr,hRea])|((first|(refine ya ?_;intro K hK)|refine yb ?_);simp only [go_sem,aeq,aeq.aeqF,simprocAttr,hRea])|refine zj (fun K hK=>?_)|refine sc ?_|refine zi rfl (fun hc=>?_) (fun hc=>?_)|(refine hK _ ?_;clear hK K)|((first|refine (show AS.le _ _ from ?_)|refine (show leH _ _ from ?_)|refine (show inH _ _ from ?_));simp only [AS.le,leT,leH,zc,AsgK,AV.le,AV.leL,AObj.le,inH,idsT,idsH,AV.ids,AV.idsL,AV.idsR,AObj.ids,lk,hget,go_sem,aeq,aeq.aeqF,simprocAttr,hRea])|refine fun (r2:Rnd _)=>?_|refine fun (nb:Bool) (hnb:nb=true→_)=>?_|with_reducible refine And.intro ?_ ?_|exact ‹_<+:_› |omega|assumption|refine fun (hg:(_:Bool)=(_:Bool))=>?_|clear hK K)
 refine zn (fun q: { q:Nat×List (List AV) // q.1≤4∧q.2++(rlI d p l1 (4 - q.1) q.1).1.map intI=L.1.map intI∧(rlI d p l1 (4 - q.1) q.1).2=L.2 } =>⟨[(0,true,.fn (.yield y.yl) [] []),(1,true,.vp 10 0),(2,true,.vp 11 0),(8,true,.d (.int .i64 q.1.1))],hRea d p l1 0,some q.1.2⟩) (fun q=>4 - q.1.1) ⟨(0,[]),by show (0:Nat)≤4;omega,by rw [hL];rfl,by rw [hL];rfl⟩ (by simp only [AS.le,leT,leH,zc,AsgK,AV.le,AV.leL,AObj.le,inH,idsT,idsH,AV.ids,AV.idsL,AV.idsR,AObj.ids,lk,hget,go_sem,aeq,aeq.aeqF,simprocAttr,hRea]<;>and_intros<;>rfl) (fun q=>?_)
 obtain ⟨⟨i,xs⟩,hi,hf,hfe⟩:=q
 simp only at hi hf hfe ⊢
 rcases Nat.lt_or_ge i 4 with hlt|hge
 ·have hcmp:decide ((i:Int)<4)=true:=decide_eq_true (by omega)
  have hwi:=zq (i:=i) (by omega)
  rw [zfD hlt,rlI] at hf hfe
  obtain ⟨X,hX⟩:∃X,X=eget d p l1 i:=⟨_,rfl⟩
  have hwg:wget d ⟨p,0⟩ l1 i=(X.1,⟨p,X.2⟩):=by rw [wget,if_neg (by simp),hX]
  rw [← hX] at hf hfe
  (have tk:=zb Tryz.prog);repeat' (first|(refine zo (fun i=>decide (i<20)) (by simp only [inH,idsH,hsel,AV.ids,AV.idsL,AV.idsR,AObj.ids,hget,go_sem,aeq,aeq.aeqF,simprocAttr]) ?_;simp only [go_sem,aeq,aeq.aeqF,simprocAttr,hRea,hcmp,hsel,keepT];refine zu ?_;simp only [go_sem,aeq,aeq.aeqF,simprocAttr,hRea,hcmp])|((first|(refine ya ?_;intro K hK)|refine yb ?_);simp only [go_sem,aeq,aeq.aeqF,simprocAttr,hRea,hcmp])|refine zj (fun K hK=>?_)|refine sc ?_|refine zi rfl (fun hc=>?_) (fun hc=>?_)|(refine hK _ ?_;clear hK K)|((first|refine (show AS.le _ _ from ?_)|refine (show leH _ _ from ?_)|refine (show inH _ _ from ?_));simp only [AS.le,leT,leH,zc,AsgK,AV.le,AV.leL,AObj.le,inH,idsT,idsH,AV.ids,AV.idsL,AV.idsR,AObj.ids,lk,hget,go_sem,aeq,aeq.aeqF,simprocAttr,hRea,hcmp])|refine fun (r2:Rnd _)=>?_|refine fun (nb:Bool) (hnb:nb=true→_)=>?_|with_reducible refine And.intro ?_ ?_|exact ‹_<+:_› |omega|assumption|refine fun (hg:(_:Bool)=(_:Bool))=>?_|clear hK K)
  refine ((zth ⟨0,0⟩ d ⟨p,0⟩ l1 i h).one (fl':=20) rfl rfl (zaP rfl) rfl (by simp [AObj.ids,AV.idsL,AV.ids,wkP]) (by simp [AV.idsL,AV.ids]) (by omega)).mono ?_
  rintro r h' ⟨ob',⟨rfl,rfl⟩,rfl⟩
  simp only [hwg]
  simp only [go_sem,aeq,aeq.aeqF,simprocAttr]
  refine hK _ ?_
  clear hK K
  by_cases he:X.2=0
  ·have hb:(X.2==0)=true:=by simpa using he
   have hb2:(X.2 !=0)=false:=by simpa using he
   rw [if_neg (by simpa using he)] at hf hfe
   have hk3:=(zdp (zg6 (by rw [← hX];exact he)).1).1
   rw [← hX] at hk3
   by_cases h2:X.1.kind=2
   ·have hk2:(X.1.kind==2)=true:=by simpa using h2
    rw [if_pos h2] at hf hfe
    (have tk:=zb Tryz.prog);repeat' (first|(refine zo (fun i=>decide (i<20)) (by simp only [inH,idsH,hsel,AV.ids,AV.idsL,AV.idsR,AObj.ids,hget,go_sem,aeq,aeq.aeqF,simprocAttr]) ?_;simp only [go_sem,aeq,aeq.aeqF,simprocAttr,hb,hb2,hk2,hsel,keepT];refine zu ?_;simp only [go_sem,aeq,aeq.aeqF,simprocAttr,hb,hb2,hk2])|((first|(refine ya ?_;intro K hK)|refine yb ?_);simp only [go_sem,aeq,aeq.aeqF,simprocAttr,hb,hb2,hk2])|refine zj (fun K hK=>?_)|refine sc ?_|refine zi rfl (fun hc=>?_) (fun hc=>?_)|(refine hK _ ?_;clear hK K)|((first|refine (show AS.le _ _ from ?_)|refine (show leH _ _ from ?_)|refine (show inH _ _ from ?_));simp only [AS.le,leT,leH,zc,AsgK,AV.le,AV.leL,AObj.le,inH,idsT,idsH,AV.ids,AV.idsL,AV.idsR,AObj.ids,lk,hget,go_sem,aeq,aeq.aeqF,simprocAttr,hb,hb2,hk2])|refine fun (r2:Rnd _)=>?_|refine fun (nb:Bool) (hnb:nb=true→_)=>?_|with_reducible refine And.intro ?_ ?_|exact ‹_<+:_› |omega|assumption|refine fun (hg:(_:Bool)=(_:Bool))=>?_|clear hK K)
    ·rintro zs rfl
     rw [← hf]
     simp
    ·exact ⟨14,rfl,hfe⟩
   have hk2:(X.1.kind==2)=false:=by simpa using h2
   rw [if_neg h2] at hf hfe
   by_cases h0:X.1.kind=0
   ·have hk0:(X.1.kind==1)=false:=by simp;omega
    rw [if_pos h0] at hf hfe
    (have tk:=zb Tryz.prog);repeat' (first|(refine zo (fun i=>decide (i<20)) (by simp only [inH,idsH,hsel,AV.ids,AV.idsL,AV.idsR,AObj.ids,hget,go_sem,aeq,aeq.aeqF,simprocAttr]) ?_;simp only [go_sem,aeq,aeq.aeqF,simprocAttr,hb,hb2,hk2,hk0,hsel,keepT];refine zu ?_;simp only [go_sem,aeq,aeq.aeqF,simprocAttr,hb,hb2,hk2,hk0])|((first|(refine ya ?_;intro K hK)|refine yb ?_);simp only [go_sem,aeq,aeq.aeqF,simprocAttr,hb,hb2,hk2,hk0])|refine zj (fun K hK=>?_)|refine sc ?_|refine zi rfl (fun hc=>?_) (fun hc=>?_)|(refine hK _ ?_;clear hK K)|((first|refine (show AS.le _ _ from ?_)|refine (show leH _ _ from ?_)|refine (show inH _ _ from ?_));simp only [AS.le,leT,leH,zc,AsgK,AV.le,AV.leL,AObj.le,inH,idsT,idsH,AV.ids,AV.idsL,AV.idsR,AObj.ids,lk,hget,go_sem,aeq,aeq.aeqF,simprocAttr,hb,hb2,hk2,hk0])|refine fun (r2:Rnd _)=>?_|refine fun (nb:Bool) (hnb:nb=true→_)=>?_|with_reducible refine And.intro ?_ ?_|exact ‹_<+:_› |omega|assumption|refine fun (hg:(_:Bool)=(_:Bool))=>?_|clear hK K)
    refine zn (fun _:Unit=>⟨[(0,true,.fn (.yield y.yl) [] []),(1,true,.vp 10 0),(2,true,.vp 11 0),(5,true,.vp 20 0),(6,true,.d (.int .i64 0)),(8,true,.d (.int .i64 i))],(20,.var [.d (.int .i64 X.1.kind),.d (.int .i64 X.1.loc)])::hRea d p l1 0,some xs⟩) (fun _=>0) () (by simp only [AS.le,leT,leH,zc,AsgK,AV.le,AV.leL,AObj.le,inH,idsT,idsH,AV.ids,AV.idsL,AV.idsR,AObj.ids,lk,hget,go_sem,aeq,aeq.aeqF,simprocAttr,hRea,he]<;>and_intros<;>rfl) (fun _=>?_)
    (have tk:=zb Tryz.prog);repeat' (first|(refine zo (fun i=>decide (i<20)) (by simp only [inH,idsH,hsel,AV.ids,AV.idsL,AV.idsR,AObj.ids,hget,go_sem,aeq,aeq.aeqF,simprocAttr]) ?_;simp only [go_sem,aeq,aeq.aeqF,simprocAttr,hk0,hRea,hsel,keepT];refine zu ?_;simp only [go_sem,aeq,aeq.aeqF,simprocAttr,hk0,hRea])|((first|(refine ya ?_;intro K hK)|refine yb ?_);simp only [go_sem,aeq,aeq.aeqF,simprocAttr,hk0,hRea])|refine zj (fun K hK=>?_)|refine sc ?_|refine zi rfl (fun hc=>?_) (fun hc=>?_)|(refine hK _ ?_;clear hK K)|((first|refine (show AS.le _ _ from ?_)|refine (show leH _ _ from ?_)|refine (show inH _ _ from ?_));simp only [AS.le,leT,leH,zc,AsgK,AV.le,AV.leL,AObj.le,inH,idsT,idsH,AV.ids,AV.idsL,AV.idsR,AObj.ids,lk,hget,go_sem,aeq,aeq.aeqF,simprocAttr,hk0,hRea])|refine fun (r2:Rnd _)=>?_|refine fun (nb:Bool) (hnb:nb=true→_)=>?_|with_reducible refine And.intro ?_ ?_|exact ‹_<+:_› |omega|assumption|refine fun (hg:(_:Bool)=(_:Bool))=>?_|clear hK K)
    exact ⟨⟨(i+1,xs),by show i+1≤4;omega,hf,hfe⟩,by simp only [AS.le,leT,leH,zc,AsgK,AV.le,AV.leL,AObj.le,inH,idsT,idsH,AV.ids,AV.idsL,AV.idsR,AObj.ids,lk,hget,go_sem,aeq,aeq.aeqF,simprocAttr,hwi,hRea],by simp;omega⟩
   have h1:X.1.kind=1:=by omega
   have hk1:(X.1.kind==1)=true:=by simpa using h1
   rw [if_neg h0] at hf hfe
   obtain ⟨loc,hloc⟩:∃loc,loc=X.1.loc:=⟨_,rfl⟩
   rw [← hloc] at hf hfe
   obtain ⟨J0,hJ0⟩:∃J0,J0=rlJ d p loc 16 0:=⟨_,rfl⟩
   obtain ⟨R,hR⟩:∃R,R=rlI d p l1 (4 - (i+1)) (i+1):=⟨_,rfl⟩
   rw [← hJ0,← hR] at hf hfe
   obtain ⟨S,hS⟩:∃S:List Int,S=if J0.2≠0 then [] else R.1:=⟨_,rfl⟩
   have hf1:xs++intI loc::((J0.1.map intI)++S.map intI)=L.1.map intI:=by
    rw [← hf,hS]
    by_cases h4:J0.2=0
    ·rw [if_neg (by simpa using h4),if_neg (by simpa using h4)];simp
    ·rw [if_pos h4,if_pos h4];simp
   have hf2:J0.2≠0→J0.2=L.2∧S= []:=fun h4=>by rw [if_pos h4] at hfe hS;exact ⟨hfe,hS⟩
   have hf3:J0.2=0→R.2=L.2∧S=R.1:=fun h4=>by rw [if_neg (by simpa using h4)] at hfe hS;exact ⟨hfe,hS⟩
   have hpr:(xs++ [[.d (.int .i64 loc)]])<+:L.1.map intI:=⟨(J0.1.map intI)++S.map intI,by rw [← hf1];simp [intI]⟩
   clear hf hfe
   (have tk:=zb Tryz.prog);repeat' (first|(refine zo (fun i=>decide (i<20)) (by simp only [inH,idsH,hsel,AV.ids,AV.idsL,AV.idsR,AObj.ids,hget,go_sem,aeq,aeq.aeqF,simprocAttr]) ?_;simp only [go_sem,aeq,aeq.aeqF,simprocAttr,hb,hb2,hk2,hk1,← hloc,he,hsel,keepT];refine zu ?_;simp only [go_sem,aeq,aeq.aeqF,simprocAttr,hb,hb2,hk2,hk1,← hloc,he])|((first|(refine ya ?_;intro K hK)|refine yb ?_);simp only [go_sem,aeq,aeq.aeqF,simprocAttr,hb,hb2,hk2,hk1,← hloc,he])|refine zj (fun K hK=>?_)|refine sc ?_|refine zi rfl (fun hc=>?_) (fun hc=>?_)|(refine hK _ ?_;clear hK K)|((first|refine (show AS.le _ _ from ?_)|refine (show leH _ _ from ?_)|refine (show inH _ _ from ?_));simp only [AS.le,leT,leH,zc,AsgK,AV.le,AV.leL,AObj.le,inH,idsT,idsH,AV.ids,AV.idsL,AV.idsR,AObj.ids,lk,hget,go_sem,aeq,aeq.aeqF,simprocAttr,hb,hb2,hk2,hk1,← hloc,he])|refine fun (r2:Rnd _)=>?_|refine fun (nb:Bool) (hnb:nb=true→_)=>?_|with_reducible refine And.intro ?_ ?_|exact ‹_<+:_› |omega|assumption|refine fun (hg:(_:Bool)=(_:Bool))=>?_|clear hK K)
   ·refine zn (fun q: { q:Nat×List (List AV) // q.1≤16∧q.2++((rlJ d p loc (16 - q.1) q.1).1.map intI++S.map intI)=L.1.map intI∧(rlJ d p loc (16 - q.1) q.1).2=J0.2 } =>⟨[(0,true,.fn (.yield y.yl) [] []),(1,true,.vp 10 0),(2,true,.vp 11 0),(5,true,.vp 20 0),(6,true,.d (.int .i64 q.1.1)),(8,true,.d (.int .i64 i))],(20,.var [.d (.int .i64 X.1.kind),.d (.int .i64 loc)])::hRea d p l1 0,some q.1.2⟩) (fun q=>16 - q.1.1) ⟨(0,xs++ [[.d (.int .i64 loc)]]),by show (0:Nat)≤16;omega,by rw [← hf1];simp [intI,hJ0],by rw [hJ0];rfl⟩ (by simp only [AS.le,leT,leH,zc,AsgK,AV.le,AV.leL,AObj.le,inH,idsT,idsH,AV.ids,AV.idsL,AV.idsR,AObj.ids,lk,hget,go_sem,aeq,aeq.aeqF,simprocAttr,hRea,he]<;>and_intros<;>rfl) (fun q=>?_)
    obtain ⟨⟨j,ys⟩,hj,hg,hge2⟩:=q
    simp only at hj hg hge2 ⊢
    rcases Nat.lt_or_ge j 16 with hjl|hjg
    ·have hcj:decide ((j:Int)<16)=true:=decide_eq_true (by omega)
     have hwj:=zq (i:=j) (by omega)
     rw [zfD hjl,rlJ] at hg hge2
     obtain ⟨Y,hY⟩:∃Y,Y=eget d p loc j:=⟨_,rfl⟩
     have hwg2:wget d ⟨p,0⟩ loc j=(Y.1,⟨p,Y.2⟩):=by rw [wget,if_neg (by simp),hY]
     rw [← hY] at hg hge2
     (have tk:=zb Tryz.prog);repeat' (first|(refine zo (fun i=>decide (i<20)) (by simp only [inH,idsH,hsel,AV.ids,AV.idsL,AV.idsR,AObj.ids,hget,go_sem,aeq,aeq.aeqF,simprocAttr]) ?_;simp only [go_sem,aeq,aeq.aeqF,simprocAttr,hcj,hk1,hRea,hsel,keepT];refine zu ?_;simp only [go_sem,aeq,aeq.aeqF,simprocAttr,hcj,hk1,hRea])|((first|(refine ya ?_;intro K hK)|refine yb ?_);simp only [go_sem,aeq,aeq.aeqF,simprocAttr,hcj,hk1,hRea])|refine zj (fun K hK=>?_)|refine sc ?_|refine zi rfl (fun hc=>?_) (fun hc=>?_)|(refine hK _ ?_;clear hK K)|((first|refine (show AS.le _ _ from ?_)|refine (show leH _ _ from ?_)|refine (show inH _ _ from ?_));simp only [AS.le,leT,leH,zc,AsgK,AV.le,AV.leL,AObj.le,inH,idsT,idsH,AV.ids,AV.idsL,AV.idsR,AObj.ids,lk,hget,go_sem,aeq,aeq.aeqF,simprocAttr,hcj,hk1,hRea])|refine fun (r2:Rnd _)=>?_|refine fun (nb:Bool) (hnb:nb=true→_)=>?_|with_reducible refine And.intro ?_ ?_|exact ‹_<+:_› |omega|assumption|refine fun (hg:(_:Bool)=(_:Bool))=>?_|clear hK K)
     refine ((zth ⟨0,0⟩ d ⟨p,0⟩ loc j h).one (fl':=20) rfl rfl (zaP rfl) rfl (by simp [AObj.ids,AV.idsL,AV.ids,wkP]) (by simp [AV.idsL,AV.ids]) (by omega)).mono ?_
     rintro r h' ⟨ob',⟨rfl,rfl⟩,rfl⟩
     simp only [hwg2]
     simp only [go_sem,aeq,aeq.aeqF,simprocAttr]
     refine hK _ ?_
     clear hK K
     by_cases hye:Y.2=0
     ·have hyb:(Y.2 !=0)=false:=by simpa using hye
      rw [if_neg (by simpa using hye)] at hg hge2
      by_cases hy1:Y.1.kind=1
      ·have hyk:(Y.1.kind==1)=true:=by simpa using hy1
       rw [if_pos hy1] at hg hge2
       have hpr2:(ys++ [[.d (.int .i64 Y.1.loc)]])<+:L.1.map intI:=⟨((rlJ d p loc (16 - (j+1)) (j+1)).1.map intI)++S.map intI,by rw [← hg];simp [intI]⟩
       (have tk:=zb Tryz.prog);repeat' (first|(refine zo (fun i=>decide (i<20)) (by simp only [inH,idsH,hsel,AV.ids,AV.idsL,AV.idsR,AObj.ids,hget,go_sem,aeq,aeq.aeqF,simprocAttr]) ?_;simp only [go_sem,aeq,aeq.aeqF,simprocAttr,hyb,hyk,hye,hsel,keepT];refine zu ?_;simp only [go_sem,aeq,aeq.aeqF,simprocAttr,hyb,hyk,hye])|((first|(refine ya ?_;intro K hK)|refine yb ?_);simp only [go_sem,aeq,aeq.aeqF,simprocAttr,hyb,hyk,hye])|refine zj (fun K hK=>?_)|refine sc ?_|refine zi rfl (fun hc=>?_) (fun hc=>?_)|(refine hK _ ?_;clear hK K)|((first|refine (show AS.le _ _ from ?_)|refine (show leH _ _ from ?_)|refine (show inH _ _ from ?_));simp only [AS.le,leT,leH,zc,AsgK,AV.le,AV.leL,AObj.le,inH,idsT,idsH,AV.ids,AV.idsL,AV.idsR,AObj.ids,lk,hget,go_sem,aeq,aeq.aeqF,simprocAttr,hyb,hyk,hye])|refine fun (r2:Rnd _)=>?_|refine fun (nb:Bool) (hnb:nb=true→_)=>?_|with_reducible refine And.intro ?_ ?_|exact ‹_<+:_› |omega|assumption|refine fun (hg:(_:Bool)=(_:Bool))=>?_|clear hK K)
       ·exact ⟨⟨(j+1,ys++ [[.d (.int .i64 Y.1.loc)]]),by show j+1≤16;omega,by rw [← hg];simp [intI],hge2⟩,by simp only [AS.le,leT,leH,zc,AsgK,AV.le,AV.leL,AObj.le,inH,idsT,idsH,AV.ids,AV.idsL,AV.idsR,AObj.ids,lk,hget,go_sem,aeq,aeq.aeqF,simprocAttr,hwj,hRea],by simp;omega⟩
       exact ⟨0,rfl⟩
      ·have hyk:(Y.1.kind==1)=false:=by simpa using hy1
       rw [if_neg hy1] at hg hge2
       (have tk:=zb Tryz.prog);repeat' (first|(refine zo (fun i=>decide (i<20)) (by simp only [inH,idsH,hsel,AV.ids,AV.idsL,AV.idsR,AObj.ids,hget,go_sem,aeq,aeq.aeqF,simprocAttr]) ?_;simp only [go_sem,aeq,aeq.aeqF,simprocAttr,hyb,hyk,hye,hsel,keepT];refine zu ?_;simp only [go_sem,aeq,aeq.aeqF,simprocAttr,hyb,hyk,hye])|((first|(refine ya ?_;intro K hK)|refine yb ?_);simp only [go_sem,aeq,aeq.aeqF,simprocAttr,hyb,hyk,hye])|refine zj (fun K hK=>?_)|refine sc ?_|refine zi rfl (fun hc=>?_) (fun hc=>?_)|(refine hK _ ?_;clear hK K)|((first|refine (show AS.le _ _ from ?_)|refine (show leH _ _ from ?_)|refine (show inH _ _ from ?_));simp only [AS.le,leT,leH,zc,AsgK,AV.le,AV.leL,AObj.le,inH,idsT,idsH,AV.ids,AV.idsL,AV.idsR,AObj.ids,lk,hget,go_sem,aeq,aeq.aeqF,simprocAttr,hyb,hyk,hye])|refine fun (r2:Rnd _)=>?_|refine fun (nb:Bool) (hnb:nb=true→_)=>?_|with_reducible refine And.intro ?_ ?_|exact ‹_<+:_› |omega|assumption|refine fun (hg:(_:Bool)=(_:Bool))=>?_|clear hK K)
       exact ⟨⟨(j+1,ys),by show j+1≤16;omega,hg,hge2⟩,by simp only [AS.le,leT,leH,zc,AsgK,AV.le,AV.leL,AObj.le,inH,idsT,idsH,AV.ids,AV.idsL,AV.idsR,AObj.ids,lk,hget,go_sem,aeq,aeq.aeqF,simprocAttr,hwj,hRea],by simp;omega⟩
     ·have hyb:(Y.2 !=0)=true:=by simpa using hye
      rw [if_pos (by simpa using hye)] at hg hge2
      have hJne:J0.2≠0:=by rw [← hge2];exact hye
      (have tk:=zb Tryz.prog);repeat' (first|(refine zo (fun i=>decide (i<20)) (by simp only [inH,idsH,hsel,AV.ids,AV.idsL,AV.idsR,AObj.ids,hget,go_sem,aeq,aeq.aeqF,simprocAttr]) ?_;simp only [go_sem,aeq,aeq.aeqF,simprocAttr,hyb,hsel,keepT];refine zu ?_;simp only [go_sem,aeq,aeq.aeqF,simprocAttr,hyb])|((first|(refine ya ?_;intro K hK)|refine yb ?_);simp only [go_sem,aeq,aeq.aeqF,simprocAttr,hyb])|refine zj (fun K hK=>?_)|refine sc ?_|refine zi rfl (fun hc=>?_) (fun hc=>?_)|(refine hK _ ?_;clear hK K)|((first|refine (show AS.le _ _ from ?_)|refine (show leH _ _ from ?_)|refine (show inH _ _ from ?_));simp only [AS.le,leT,leH,zc,AsgK,AV.le,AV.leL,AObj.le,inH,idsT,idsH,AV.ids,AV.idsL,AV.idsR,AObj.ids,lk,hget,go_sem,aeq,aeq.aeqF,simprocAttr,hyb])|refine fun (r2:Rnd _)=>?_|refine fun (nb:Bool) (hnb:nb=true→_)=>?_|with_reducible refine And.intro ?_ ?_|exact ‹_<+:_› |omega|assumption|refine fun (hg:(_:Bool)=(_:Bool))=>?_|clear hK K)
      ·rintro zs rfl
       rw [← hg,(hf2 hJne).2]
       simp
      ·exact ⟨Y.2,rfl,by rw [← (hf2 hJne).1];exact hge2⟩
    ·have hcj:decide ((j:Int)<16)=false:=decide_eq_false (by omega)
     have hj16:j=16:=by omega
     subst hj16
     rw [show 16 - 16=0 from rfl,rlJ] at hg hge2
     have hJ3:=hf3 hge2.symm
     (have tk:=zb Tryz.prog);repeat' (first|(refine zo (fun i=>decide (i<20)) (by simp only [inH,idsH,hsel,AV.ids,AV.idsL,AV.idsR,AObj.ids,hget,go_sem,aeq,aeq.aeqF,simprocAttr]) ?_;simp only [go_sem,aeq,aeq.aeqF,simprocAttr,hcj,hRea,hsel,keepT];refine zu ?_;simp only [go_sem,aeq,aeq.aeqF,simprocAttr,hcj,hRea])|((first|(refine ya ?_;intro K hK)|refine yb ?_);simp only [go_sem,aeq,aeq.aeqF,simprocAttr,hcj,hRea])|refine zj (fun K hK=>?_)|refine sc ?_|refine zi rfl (fun hc=>?_) (fun hc=>?_)|(refine hK _ ?_;clear hK K)|((first|refine (show AS.le _ _ from ?_)|refine (show leH _ _ from ?_)|refine (show inH _ _ from ?_));simp only [AS.le,leT,leH,zc,AsgK,AV.le,AV.leL,AObj.le,inH,idsT,idsH,AV.ids,AV.idsL,AV.idsR,AObj.ids,lk,hget,go_sem,aeq,aeq.aeqF,simprocAttr,hcj,hRea])|refine fun (r2:Rnd _)=>?_|refine fun (nb:Bool) (hnb:nb=true→_)=>?_|with_reducible refine And.intro ?_ ?_|exact ‹_<+:_› |omega|assumption|refine fun (hg:(_:Bool)=(_:Bool))=>?_|clear hK K)
     exact ⟨⟨(i+1,ys),by show i+1≤4;omega,by rw [← hR,← hJ3.2,← hg];simp,by rw [← hR];exact hJ3.1⟩,by simp only [AS.le,leT,leH,zc,AsgK,AV.le,AV.leL,AObj.le,inH,idsT,idsH,AV.ids,AV.idsL,AV.idsR,AObj.ids,lk,hget,go_sem,aeq,aeq.aeqF,simprocAttr,hwi,hRea],by simp;omega⟩
   exact ⟨0,rfl⟩
  ·have hb:(X.2==0)=false:=by simpa using he
   have hb2:(X.2 !=0)=true:=by simpa using he
   rw [if_pos (by simpa using he)] at hf hfe
   (have tk:=zb Tryz.prog);repeat' (first|(refine zo (fun i=>decide (i<20)) (by simp only [inH,idsH,hsel,AV.ids,AV.idsL,AV.idsR,AObj.ids,hget,go_sem,aeq,aeq.aeqF,simprocAttr]) ?_;simp only [go_sem,aeq,aeq.aeqF,simprocAttr,hb,hb2,hsel,keepT];refine zu ?_;simp only [go_sem,aeq,aeq.aeqF,simprocAttr,hb,hb2])|((first|(refine ya ?_;intro K hK)|refine yb ?_);simp only [go_sem,aeq,aeq.aeqF,simprocAttr,hb,hb2])|refine zj (fun K hK=>?_)|refine sc ?_|refine zi rfl (fun hc=>?_) (fun hc=>?_)|(refine hK _ ?_;clear hK K)|((first|refine (show AS.le _ _ from ?_)|refine (show leH _ _ from ?_)|refine (show inH _ _ from ?_));simp only [AS.le,leT,leH,zc,AsgK,AV.le,AV.leL,AObj.le,inH,idsT,idsH,AV.ids,AV.idsL,AV.idsR,AObj.ids,lk,hget,go_sem,aeq,aeq.aeqF,simprocAttr,hb,hb2])|refine fun (r2:Rnd _)=>?_|refine fun (nb:Bool) (hnb:nb=true→_)=>?_|with_reducible refine And.intro ?_ ?_|exact ‹_<+:_› |omega|assumption|refine fun (hg:(_:Bool)=(_:Bool))=>?_|clear hK K)
   ·rintro zs rfl
    rw [← hf]
    simp
   ·exact ⟨X.2,rfl,hfe⟩
 ·have hcmp:decide ((i:Int)<4)=false:=decide_eq_false (by omega)
  have h4:i=4:=by omega
  subst h4
  rw [show 4 - 4=0 from rfl,rlI] at hf hfe
  (have tk:=zb Tryz.prog);repeat' (first|(refine zo (fun i=>decide (i<20)) (by simp only [inH,idsH,hsel,AV.ids,AV.idsL,AV.idsR,AObj.ids,hget,go_sem,aeq,aeq.aeqF,simprocAttr]) ?_;simp only [go_sem,aeq,aeq.aeqF,simprocAttr,hRea,hcmp,hsel,keepT];refine zu ?_;simp only [go_sem,aeq,aeq.aeqF,simprocAttr,hRea,hcmp])|((first|(refine ya ?_;intro K hK)|refine yb ?_);simp only [go_sem,aeq,aeq.aeqF,simprocAttr,hRea,hcmp])|refine zj (fun K hK=>?_)|refine sc ?_|refine zi rfl (fun hc=>?_) (fun hc=>?_)|(refine hK _ ?_;clear hK K)|((first|refine (show AS.le _ _ from ?_)|refine (show leH _ _ from ?_)|refine (show inH _ _ from ?_));simp only [AS.le,leT,leH,zc,AsgK,AV.le,AV.leL,AObj.le,inH,idsT,idsH,AV.ids,AV.idsL,AV.idsR,AObj.ids,lk,hget,go_sem,aeq,aeq.aeqF,simprocAttr,hRea,hcmp])|refine fun (r2:Rnd _)=>?_|refine fun (nb:Bool) (hnb:nb=true→_)=>?_|with_reducible refine And.intro ?_ ?_|exact ‹_<+:_› |omega|assumption|refine fun (hg:(_:Bool)=(_:Bool))=>?_|clear hK K)
  ·rintro zs rfl
   rw [← hf]
   simp
  ·exact ⟨0,rfl,hfe⟩
open Go Go.Proofs
def shareK (d:Disk) (by_:Int):List Int→Plan→Plan×Int
 | [],q=>(q,0)
 |k::r,q=>if (radd d q k by_).2≠0 then (q,(radd d q k by_).2) else shareK d by_ r (radd d q k by_).1
def share (d:Disk) (p:Plan) (l1 by_:Int):Plan×Int:=
 if (reach d p l1).2≠0 then (p,(reach d p l1).2) else if (shareK d by_ (reach d p l1).1 p).2≠0 then (p,(shareK d by_ (reach d p l1).1 p).2) else shareK d by_ (reach d p l1).1 p
theorem DP.shareK {d:Disk} (by_:Int):∀ (l:List Int) {p:Plan},DP d p→DP d (shareK d by_ l p).1
 | [],p,h=>h
 |k::r,p,h=>by
  rw [Aw.shareK]
  split
  ·exact h
  ·exact DP.shareK by_ r (h.radd _ _)
theorem DP.share {d:Disk} {p:Plan} (h:DP d p) (l1 by_:Int):DP d (share d p l1 by_).1:=by
 unfold Aw.share
 split
 ·exact h
 split
 ·exact h
 ·exact DP.shareK _ _ h
theorem DP.setsnap {d:Disk} {p:Plan} (h:DP d p) (i:Int) (s:Snp):DP d (setsnap d p i s).1:=by
 unfold Aw.setsnap
 split
 ·exact h
 split
 ·exact h
 ·exact ⟨h.d,zfy h.p⟩
def znA (x:Img) (id:Int) (q:Plan×Int):Img×Int×Int:=
 if q.2≠0 then (x,0,q.2) else if (cdone x q.1).2≠0 then ((cdone x q.1).1,0,(cdone x q.1).2) else ((cdone x q.1).1,id,0)
def znB (x:Img) (r:Root) (q:Plan×Int):Img×Int×Int:=
 if q.2≠0 then (x,0,q.2) else znA x r.next (zcN q.1 ⟨r.l1,r.next+1⟩)
def znC (x:Img) (name:Txt) (r:Root) (at_ k:Int) (q:Plan×Int):Img×Int×Int:=
 if q.2≠0 then (x,0,q.2) else znB x r (setsnap x.disk q.1 at_ ⟨r.next,k,name⟩)
def znD (x:Img) (name:Txt) (r:Root) (at_ k:Int) (q:Plan×Int):Img×Int×Int:=
 if q.2≠0 then (x,0,q.2) else znC x name r at_ k (share x.disk q.1 r.l1 1)
def zju (x:Img) (name:Txt) (r:Root) (at_:Int) (t:Plan×Int×Int):Img×Int×Int:=
 if t.2.2≠0 then (x,0,t.2.2) else znD x name r at_ t.2.1 (ecopy x.disk t.1 r.l1 t.2.1)
def zeK (x:Img) (name:Txt):Img×Int×Int:=
 if x.broken then (x,0,24) else if (zy x.disk p0).2≠0 then (x,0,(zy x.disk p0).2) else if (snaps x.disk p0).2≠0 then (x,0,(snaps x.disk p0).2)
 else if zan name=false then (x,0,19) else if (snaps x.disk p0).1.any (fun s=>s.id !=0&&s.name==name) then (x,0,20)
 else if idxP (fun s=>s.id==0) (snaps x.disk p0).1 0<0 then (x,0,17) else if (zy x.disk p0).1.next=0∨(zy x.disk p0).1.next=4294967295 then (x,0,10)
 else zju x name (zy x.disk p0).1 (idxP (fun s=>s.id==0) (snaps x.disk p0).1 0) (rtake x.disk p0 x.geom)
def wipe2 (x:Img) (guest kind:Int):Img×Int:=
 if (zy x.disk p0).2≠0 then (x,(zy x.disk p0).2) else if (elook x.disk p0 (zy x.disk p0).1.l1 guest).2≠0 then (x,(elook x.disk p0 (zy x.disk p0).1.l1 guest).2)
 else if (elook x.disk p0 (zy x.disk p0).1.l1 guest).1.kind=kind then (x,0)
 else if (ppoint x.disk p0 x.geom guest ⟨kind,0⟩).2≠0 then (x,(ppoint x.disk p0 x.geom guest ⟨kind,0⟩).2) else cdone x (ppoint x.disk p0 x.geom guest ⟨kind,0⟩).1
def wipe (x:Img) (guest:Int) (hole:Bool):Img×Int:=
 if x.broken then (x,24) else if guest<0∨x.geom.guest≤guest then (x,10) else wipe2 (cmark x guest) guest (if hole then 0 else 2)
open Go Go.Proofs
@[go_sem] abbrev hRe0 (d:Disk) (p:Plan):AHeap:= [(6,.var [.nils 1]),(5,.var (wkP p ⟨0,0⟩ d 0)),(4,(.var [.d (.sl 1 (p.targets.map intD)),.d (.sl 1 (p.texts.map strD))])),(3,(.var [.d (.str d.data),.d (.sl 2 (d.cache.map putD)),.d (.int .i64 d.fuse),.d (.bool d.off),.d (.sl 1 (d.bad.map intD))]))]
theorem zoT (d:Disk) (p:Plan) (l1:Int):ACall Tryz.prog 126 10 [.vp 5 0,.d (.int .i64 l1)] (hRe0 d p) (fun r h'=>r= .fn (.func 195) [] [.vp 10 0,.vp 11 0]∧h'=(11,.var [.d (.int .i64 l1)])::(10,.var [.vp 5 0])::hRe0 d p):=by
 refine bod Tryz.func126 Tryz.ntmps126 (fun base=>?_)
 (repeat' (first|(refine hK _ ?_;clear hK K)|refine wa fun K hK=>?_|refine wb ?_|refine wc ?_ ?_|refine fun (nb:Bool) (hnb:nb=true→_)=>?_|exact we|clear hK K))
theorem zq9 {p:Nat→Bool} {h:AHeap} (hin:inH (hsel p h) (idsH (hsel p h))):zeT p h:=fun i o ho hp j hj=>by
 have h1:hget (hsel p h) i=some o:=by rw [zk,if_pos hp];exact ho
 have:=zez hin j (zeb h1 j hj)
 rw [zk] at this
 cases hb:p j with
 |true=>rfl
 |false=>rw [hb] at this;simp at this
theorem zmA (d:Disk) (p:Plan) (l1:Int) (h:DP d p):ACall Tryz.prog 47 3 [diskA d,planA p,.d (.int .i64 l1)] [] (fun r h'=>((reach d p l1).2≠0∧r= .tup [.nils 1,.d (.int .i64 (reach d p l1).2)]∧∃a,h'= [(12,.arr 1 a)])∨((reach d p l1).2=0∧r= .tup [.osl 12 1 (reach d p l1).1.length 0 (reach d p l1).1.length,.d (.int .i64 0)]∧h'= [(12,.arr 1 ((reach d p l1).1.map intD))])):=by
 refine zef (fun i=>decide (i=12)) ?_
 refine bod Tryz.func47 Tryz.ntmps47 (fun base=>?_)
 have hr:=zsP (d:=d) (p:=p) (l1:=l1)
 have hll:=zq8 (d:=d) (p:=p) (l1:=l1) 4 0
 have hit:=zlg d p l1 h
 obtain ⟨L,hL⟩:∃L,L=rlI d p l1 4 0:=⟨_,rfl⟩
 rw [← hL] at hr hll hit
 (repeat' (first|(refine hK _ ?_;clear hK K)|refine wa fun K hK=>?_|refine wb ?_|refine wc ?_ ?_|refine wl ?_|refine fun (r2:Rnd _)=>?_|refine fun (nb:Bool) (hnb:nb=true→_)=>?_|exact ‹_<+:_› |exact we|refine fun (hc:_=(_:Bool))=>?_|clear hK K))
 refine ((zoT d p l1).whole (zaP rfl) (by omega) ?_).mono ?_
 ·rintro r h' ⟨rfl,rfl⟩ i hi
  revert hi
  simp only [hget]
  repeat' split
  all_goals simp
 rintro r h' ⟨rfl,rfl⟩
 (repeat' (first|(refine hK _ ?_;clear hK K)|refine wa fun K hK=>?_|refine wb ?_|refine wc ?_ ?_|refine wl ?_|refine fun (r2:Rnd _)=>?_|refine fun (nb:Bool) (hnb:nb=true→_)=>?_|exact ‹_<+:_› |exact we|refine fun (hc:_=(_:Bool))=>?_|clear hK K))
 refine zj7 6 0 1 (cs:= [.nils 1]) rfl rfl ?_
 obtain ⟨I,hI⟩:∃I:List (List AV)→AHeap×Option (List (List AV)),I=fun xs=>([(12,.arr 1 ((L.1.take xs.length).map intD)),(6,.var [.osl 12 1 xs.length 0 xs.length]),(4,(.var [.d (.sl 1 (p.targets.map intD)),.d (.sl 1 (p.texts.map strD))])),(3,(.var [.d (.str d.data),.d (.sl 2 (d.cache.map putD)),.d (.int .i64 d.fuse),.d (.bool d.off),.d (.sl 1 (d.bad.map intD))]))],some []):=⟨_,rfl⟩
 refine aw_le ⟨[(8,true,.vp 5 0),(9,true,.vp 6 0),(17,true,.fn (.func 195) [] [.vp 10 0,.vp 11 0])],(12,.arr 1 [])::(6,.var [.osl 12 1 0 0 0])::(4,(.var [.d (.sl 1 (p.targets.map intD)),.d (.sl 1 (p.texts.map strD))]))::(3,(.var [.d (.str d.data),.d (.sl 2 (d.cache.map putD)),.d (.int .i64 d.fuse),.d (.bool d.off),.d (.sl 1 (d.bad.map intD))]))::hRea d p l1 0,some []⟩ (by simp only [AS.le,leT,leH,zc,AsgK,AV.le,AV.leL,AObj.le,inH,idsT,idsH,AV.ids,AV.idsL,AV.idsR,AObj.ids,lk,hget,go_sem,aeq,aeq.aeqF,simprocAttr,fresh,top,hset,hRea]) ?_
 refine zfT (Kit:=fun gg h'=>(∀xs,gg=some xs→xs=L.1.map intI)∧∃e,h'=hRea d p l1 e∧(gg≠none→e=L.2)) (items:=L.1.map intI) (fl:=20) (fun i=>i==5||i==10||i==11) I (fun _ _ _=>False) rfl rfl hit (zaP rfl) (by simp [cxOf]) (zq9 ?_) (by simp [AV.idsL,AV.ids]) ?_ ?_ (by rw [hI]) ?_ (fun _ _ _ h=>h.elim) ?_ (by intro x hx;obtain ⟨q,_,rfl⟩:=List.mem_map.1 hx;rfl) (by simp [cxOf]) ?_ ?_ (fun _ _ _ _ _ h=>h.elim)
 ·simp [hsel,inH,idsH,AObj.ids,AV.idsL,AV.ids,hget,wkP]
 ·rw [hI]
  simp [hsel,leH,hget,AObj.le,AV.leL,AV.le]
 ·rw [hI]
  simp [inH,idsH,AObj.ids,AV.idsL,AV.ids,hget]
 ·intro xs _ i hi
  rw [hI] at hi
  simp only [hget] at hi
  repeat' split at hi
  all_goals first|(simp;omega)|simp at hi
 ·rintro gg h' ⟨h1,e,rfl,h2⟩
  refine ⟨fun i hi=>?_,h1⟩
  simp only [hget] at hi
  repeat' split at hi
  all_goals first|(simp;omega)|simp at hi
 ·intro xs x hpre l2 r1
  obtain ⟨ys,q,zs,hys,rfl,hzl⟩:=zdb hpre
  have hln:xs.length=ys.length:=by rw [hys];simp
  have hqL:L.1[xs.length]?=some q:=by rw [hzl,hln];simp
  have htk:=zbm hqL
  have hxl:=(List.getElem?_eq_some_iff.1 hqL).1
  obtain ⟨A,hA⟩:∃A:List (List D),A=(L.1.take xs.length).map intD:=⟨_,rfl⟩
  have hAl:A.length=xs.length:=by rw [hA,List.length_map,List.length_take];omega
  simp only [intI]
  refine aw_le ⟨[(18,true,.d (.int .i64 q)),(9,true,.vp 6 0)],[(12,.arr 1 A),(6,.var [.osl 12 1 xs.length 0 xs.length]),(4,(.var [.d (.sl 1 (p.targets.map intD)),.d (.sl 1 (p.texts.map strD))])),(3,(.var [.d (.str d.data),.d (.sl 2 (d.cache.map putD)),.d (.int .i64 d.fuse),.d (.bool d.off),.d (.sl 1 (d.bad.map intD))]))],some []⟩ (by rw [hI,hA];simp only [AS.le,leT,leH,zc,AsgK,AV.le,AV.leL,AObj.le,inH,idsT,idsH,AV.ids,AV.idsL,AV.idsR,AObj.ids,lk,hget,go_sem,aeq,aeq.aeqF,simprocAttr]) ?_
  (have tk:=zb Tryz.prog);repeat' (first|((first|(refine sa ?_;intro K hK)|refine sb ?_);simp only [go_sem,aeq,aeq.aeqF,simprocAttr,hAl,hI,List.length_append,htk,List.map_append,← hA,Tryz.results47])|refine zj (fun K hK=>?_)|refine sc ?_|refine zi rfl (fun hc=>?_) (fun hc=>?_)|(refine hK _ ?_;clear hK K)|((first|refine (show AS.le _ _ from ?_)|refine (show leH _ _ from ?_)|refine (show inH _ _ from ?_));simp only [AS.le,leT,leH,zc,AsgK,AV.le,AV.leL,AObj.le,inH,idsT,idsH,AV.ids,AV.idsL,AV.idsR,AObj.ids,lk,hget,go_sem,aeq,aeq.aeqF,simprocAttr,hAl,hI,List.length_append,htk,List.map_append,← hA])|refine fun (r2:Rnd _)=>?_|refine fun (nb:Bool) (hnb:nb=true→_)=>?_|with_reducible refine And.intro ?_ ?_|exact ‹_<+:_› |(refine (show zO _ _=true from ?_);kernel_rfl)|omega|assumption|clear hK K)
  rfl
 ·rintro h1 ⟨_,e,rfl,he⟩
  obtain rfl:=he (by simp)
  rw [hI]
  by_cases hz:L.2=0
  ·have hb:(L.2 !=0)=false:=by simpa using hz
   rw [if_neg (by simpa using hz)] at hr
   (have tk:=zb Tryz.prog);repeat' (first|((first|(refine sa ?_;intro K hK)|refine sb ?_);simp only [go_sem,aeq,aeq.aeqF,simprocAttr,hb,hRea,List.length_map,List.take_length,Tryz.results47])|refine zj (fun K hK=>?_)|refine sc ?_|refine zi rfl (fun hc=>?_) (fun hc=>?_)|(refine hK _ ?_;clear hK K)|((first|refine (show AS.le _ _ from ?_)|refine (show leH _ _ from ?_)|refine (show inH _ _ from ?_));simp only [AS.le,leT,leH,zc,AsgK,AV.le,AV.leL,AObj.le,inH,idsT,idsH,AV.ids,AV.idsL,AV.idsR,AObj.ids,lk,hget,go_sem,aeq,aeq.aeqF,simprocAttr,hb,hRea,List.length_map,List.take_length])|refine fun (r2:Rnd _)=>?_|refine fun (nb:Bool) (hnb:nb=true→_)=>?_|with_reducible refine And.intro ?_ ?_|exact ‹_<+:_› |(refine (show zO _ _=true from ?_);kernel_rfl)|omega|assumption|clear hK K)
   all_goals first|rfl|skip
   rw [hr]
   exact .inr ⟨rfl,rfl,rfl⟩
  ·have hb:(L.2 !=0)=true:=by simpa using hz
   rw [if_pos hz] at hr
   (have fx:=hb;repeat' (first|(refine hK _ ?_;clear hK K)|refine wa fun K hK=>?_|refine wb ?_|refine wc ?_ ?_|refine wl ?_|refine fun (r2:Rnd _)=>?_|refine fun (nb:Bool) (hnb:nb=true→_)=>?_|exact ‹_<+:_› |exact we|refine fun (hc:_=(_:Bool))=>?_|clear hK K))
   all_goals first|rfl|skip
   rw [hr]
   exact .inl ⟨hz,rfl,_,rfl⟩
open Go Go.Proofs
def zhl (d:Disk):List (Int×Int):=if (firsts d).2≠0 then [(0,(firsts d).2)] else (firsts d).1.map (fun t=>(t,0))
theorem zoU (x:Img) (_:True):AC 46 [imgA x] (.fn (.func 123) [] [.dp (imgV x)]):=by
 refine fbod Tryz.func46 Tryz.ntmps46 (fun base=>?_)
 (repeat' (first|(refine hK _ ?_;clear hK K)|refine wa fun K hK=>?_|refine wb ?_|refine wc ?_ ?_|refine fun (nb:Bool) (hnb:nb=true→_)=>?_|exact we|clear hK K))
@[go_sem] noncomputable def zea:Ent Tryz.prog 46:= .m1 zci zoU
theorem zoV (x:Img) (h:ImgF x):AIter Tryz.prog 123 3 [] [.dp (imgV x)] [] ((zhl x.disk).map freeI) (fun gg h'=>(∀xs,gg=some xs→xs=(zhl x.disk).map freeI)∧h'= []):=by
 have hdp:DP x.disk p0:=⟨h.disk,zb4⟩
 have hll:=ze4 (d:=x.disk) (p:=p0)
 have hsf:=zkP (d:=x.disk) (p:=p0)
 obtain ⟨R,hR⟩:∃R,R=zy x.disk p0:=⟨_,rfl⟩
 obtain ⟨L,hL⟩:∃L,L=snaps x.disk p0:=⟨_,rfl⟩
 obtain ⟨T0,hT0⟩:∃T0,T0=(zhl x.disk).map freeI:=⟨_,rfl⟩
 have hT:T0=if R.2≠0 then [freeI (0,R.2)] else if L.2≠0 then [freeI (0,L.2)] else freeI (R.1.l1,0)::((L.1.filter (fun s=>s.id !=0)).map (fun s=>freeI (s.l1,0))):=by
  rw [hT0,zhl,firsts,← hR,← hL]
  by_cases h1:R.2=0<;>by_cases h2:L.2=0<;>simp [h1,h2,List.map_map,Function.comp_def]
 rw [← hT0]
 rw [← hL] at hll hsf
 refine itr Tryz.func123 Tryz.ntmps123 (fun base y=>?_)
 refine zd1 ?_
 by_cases h1:R.2=0
 ·have hb1:(R.2 !=0)=false:=by simpa using h1
  rw [if_neg (by simpa using h1)] at hT
  by_cases h2:L.2=0
  ·have hb2:(L.2 !=0)=false:=by simpa using h2
   rw [if_neg (by simpa using h2)] at hT
   have hpr:([]++ [[.d (.int .i64 R.1.l1),.d (.int .i64 0)]])<+:T0:=⟨_,by rw [hT];rfl⟩
   (have tk:=za zcZ <| za zfJ <| zb Tryz.prog);repeat' (first|(refine zo (fun i=>decide (i<3)) (by simp only [inH,idsH,hsel,AV.ids,AV.idsL,AV.idsR,AObj.ids,hget,go_sem,aeq,aeq.aeqF,simprocAttr]) ?_;simp only [go_sem,aeq,aeq.aeqF,simprocAttr,← hR,← hL,hb1,hb2,hsel,keepT];refine zu ?_;simp only [go_sem,aeq,aeq.aeqF,simprocAttr,← hR,← hL,hb1,hb2])|((first|(refine ya ?_;intro K hK)|refine yb ?_);simp only [go_sem,aeq,aeq.aeqF,simprocAttr,← hR,← hL,hb1,hb2])|refine zj (fun K hK=>?_)|refine sc ?_|refine zi rfl (fun hc=>?_) (fun hc=>?_)|(refine hK _ ?_;clear hK K)|((first|refine (show AS.le _ _ from ?_)|refine (show leH _ _ from ?_)|refine (show inH _ _ from ?_));simp only [AS.le,leT,leH,zc,AsgK,AV.le,AV.leL,AObj.le,inH,idsT,idsH,AV.ids,AV.idsL,AV.idsR,AObj.ids,lk,hget,go_sem,aeq,aeq.aeqF,simprocAttr,← hR,← hL,hb1,hb2])|refine fun (r2:Rnd _)=>?_|with_reducible refine And.intro ?_ ?_|exact ‹_<+:_› |omega|assumption|refine fun (hg:(_:Bool)=(_:Bool))=>?_|clear hK K)
   refine zn (fun q: { i:Nat // i≤L.1.length } =>⟨[(0,true,.fn (.yield y.yl) [] []),(37,true,.d (.sl 3 (L.1.map snpD))),(38,true,.d (.int .i64 L.1.length)),(39,true,.d (.int .i64 q.1))],[],some (freeI (R.1.l1,0)::((L.1.take q.1).filter (fun s=>s.id !=0)).map (fun s=>freeI (s.l1,0)))⟩) (fun q=>L.1.length - q.1) ⟨0,Nat.zero_le _⟩ (by simp only [AS.le,leT,leH,zc,AsgK,AV.le,AV.leL,AObj.le,inH,idsT,idsH,AV.ids,AV.idsL,AV.idsR,AObj.ids,lk,hget,go_sem,aeq,aeq.aeqF,simprocAttr,freeI]<;>and_intros<;>rfl) (fun q=>?_)
   obtain ⟨i,hi⟩:=q
   simp only
   rcases zG snpD L.1 i hi with ⟨s,hq,hlt,hcmp,hrow,hdr,htk⟩|⟨hend,hcmp⟩
   ·simp only [snpD] at hrow
    have hwi:=zq (i:=i) (by omega)
    have hs0:=(hsf s (List.mem_of_getElem? hq)).1
    obtain ⟨A,hA⟩:∃A,A=freeI (R.1.l1,0)::((L.1.take i).filter (fun s=>s.id !=0)).map (fun s=>freeI (s.l1,0)):=⟨_,rfl⟩
    rw [← hA]
    by_cases hz:s.id=0
    ·have hb:decide (0<s.id)=false:=decide_eq_false (by omega)
     have hA2:freeI (R.1.l1,0)::((L.1.take (i+1)).filter (fun s=>s.id !=0)).map (fun s=>freeI (s.l1,0))=A:=by rw [hA,htk,List.filter_append];simp [hz]
     (have tk:=zb Tryz.prog);repeat' (first|(refine zo (fun i=>decide (i<3)) (by simp only [inH,idsH,hsel,AV.ids,AV.idsL,AV.idsR,AObj.ids,hget,go_sem,aeq,aeq.aeqF,simprocAttr]) ?_;simp only [go_sem,aeq,aeq.aeqF,simprocAttr,hcmp,hrow,hb,hsel,keepT];refine zu ?_;simp only [go_sem,aeq,aeq.aeqF,simprocAttr,hcmp,hrow,hb])|((first|(refine ya ?_;intro K hK)|refine yb ?_);simp only [go_sem,aeq,aeq.aeqF,simprocAttr,hcmp,hrow,hb])|refine zj (fun K hK=>?_)|refine sc ?_|refine zi rfl (fun hc=>?_) (fun hc=>?_)|(refine hK _ ?_;clear hK K)|((first|refine (show AS.le _ _ from ?_)|refine (show leH _ _ from ?_)|refine (show inH _ _ from ?_));simp only [AS.le,leT,leH,zc,AsgK,AV.le,AV.leL,AObj.le,inH,idsT,idsH,AV.ids,AV.idsL,AV.idsR,AObj.ids,lk,hget,go_sem,aeq,aeq.aeqF,simprocAttr,hcmp,hrow,hb])|refine fun (r2:Rnd _)=>?_|with_reducible refine And.intro ?_ ?_|exact ‹_<+:_› |omega|assumption|refine fun (hg:(_:Bool)=(_:Bool))=>?_|clear hK K)
     exact ⟨⟨i+1,by omega⟩,by rw [hA2];simp only [AS.le,leT,leH,zc,AsgK,AV.le,AV.leL,AObj.le,inH,idsT,idsH,AV.ids,AV.idsL,AV.idsR,AObj.ids,lk,hget,go_sem,aeq,aeq.aeqF,simprocAttr,hwi],by simp;omega⟩
    ·have hb:decide (0<s.id)=true:=decide_eq_true (by omega)
     have hA2:freeI (R.1.l1,0)::((L.1.take (i+1)).filter (fun s=>s.id !=0)).map (fun s=>freeI (s.l1,0))=A++ [[.d (.int .i64 s.l1),.d (.int .i64 0)]]:=by rw [hA,htk,List.filter_append];simp [hz,freeI]
     have hpr2:(A++ [[.d (.int .i64 s.l1),.d (.int .i64 0)]])<+:T0:=by
      rw [← hA2,hT]
      exact ⟨((L.1.drop (i+1)).filter (fun s=>s.id !=0)).map (fun s=>freeI (s.l1,0)),by rw [List.cons_append,← List.map_append,← List.filter_append,List.take_append_drop]⟩
     (have tk:=zb Tryz.prog);repeat' (first|(refine zo (fun i=>decide (i<3)) (by simp only [inH,idsH,hsel,AV.ids,AV.idsL,AV.idsR,AObj.ids,hget,go_sem,aeq,aeq.aeqF,simprocAttr]) ?_;simp only [go_sem,aeq,aeq.aeqF,simprocAttr,hcmp,hrow,hb,hsel,keepT];refine zu ?_;simp only [go_sem,aeq,aeq.aeqF,simprocAttr,hcmp,hrow,hb])|((first|(refine ya ?_;intro K hK)|refine yb ?_);simp only [go_sem,aeq,aeq.aeqF,simprocAttr,hcmp,hrow,hb])|refine zj (fun K hK=>?_)|refine sc ?_|refine zi rfl (fun hc=>?_) (fun hc=>?_)|(refine hK _ ?_;clear hK K)|((first|refine (show AS.le _ _ from ?_)|refine (show leH _ _ from ?_)|refine (show inH _ _ from ?_));simp only [AS.le,leT,leH,zc,AsgK,AV.le,AV.leL,AObj.le,inH,idsT,idsH,AV.ids,AV.idsL,AV.idsR,AObj.ids,lk,hget,go_sem,aeq,aeq.aeqF,simprocAttr,hcmp,hrow,hb])|refine fun (r2:Rnd _)=>?_|with_reducible refine And.intro ?_ ?_|exact ‹_<+:_› |omega|assumption|refine fun (hg:(_:Bool)=(_:Bool))=>?_|clear hK K)
     exact ⟨⟨i+1,by omega⟩,by rw [hA2];simp only [AS.le,leT,leH,zc,AsgK,AV.le,AV.leL,AObj.le,inH,idsT,idsH,AV.ids,AV.idsL,AV.idsR,AObj.ids,lk,hget,go_sem,aeq,aeq.aeqF,simprocAttr,hwi],by simp;omega⟩
   ·(have tk:=zb Tryz.prog);repeat' (first|(refine zo (fun i=>decide (i<3)) (by simp only [inH,idsH,hsel,AV.ids,AV.idsL,AV.idsR,AObj.ids,hget,go_sem,aeq,aeq.aeqF,simprocAttr]) ?_;simp only [go_sem,aeq,aeq.aeqF,simprocAttr,hcmp,hsel,keepT];refine zu ?_;simp only [go_sem,aeq,aeq.aeqF,simprocAttr,hcmp])|((first|(refine ya ?_;intro K hK)|refine yb ?_);simp only [go_sem,aeq,aeq.aeqF,simprocAttr,hcmp])|refine zj (fun K hK=>?_)|refine sc ?_|refine zi rfl (fun hc=>?_) (fun hc=>?_)|(refine hK _ ?_;clear hK K)|((first|refine (show AS.le _ _ from ?_)|refine (show leH _ _ from ?_)|refine (show inH _ _ from ?_));simp only [AS.le,leT,leH,zc,AsgK,AV.le,AV.leL,AObj.le,inH,idsT,idsH,AV.ids,AV.idsL,AV.idsR,AObj.ids,lk,hget,go_sem,aeq,aeq.aeqF,simprocAttr,hcmp])|refine fun (r2:Rnd _)=>?_|with_reducible refine And.intro ?_ ?_|exact ‹_<+:_› |omega|assumption|refine fun (hg:(_:Bool)=(_:Bool))=>?_|clear hK K)
    rintro zs rfl
    rw [hT,hend,List.take_length]
  ·have hb2:(L.2 !=0)=true:=by simpa using h2
   rw [if_pos h2] at hT
   have hpr:([]++ [[.d (.int .i64 0),.d (.int .i64 L.2)]])<+:T0:=⟨[],by rw [hT];rfl⟩
   (have tk:=za zcZ <| za zfJ <| zb Tryz.prog);repeat' (first|(refine zo (fun i=>decide (i<3)) (by simp only [inH,idsH,hsel,AV.ids,AV.idsL,AV.idsR,AObj.ids,hget,go_sem,aeq,aeq.aeqF,simprocAttr]) ?_;simp only [go_sem,aeq,aeq.aeqF,simprocAttr,← hR,← hL,hb1,hb2,hsel,keepT];refine zu ?_;simp only [go_sem,aeq,aeq.aeqF,simprocAttr,← hR,← hL,hb1,hb2])|((first|(refine ya ?_;intro K hK)|refine yb ?_);simp only [go_sem,aeq,aeq.aeqF,simprocAttr,← hR,← hL,hb1,hb2])|refine zj (fun K hK=>?_)|refine sc ?_|refine zi rfl (fun hc=>?_) (fun hc=>?_)|(refine hK _ ?_;clear hK K)|((first|refine (show AS.le _ _ from ?_)|refine (show leH _ _ from ?_)|refine (show inH _ _ from ?_));simp only [AS.le,leT,leH,zc,AsgK,AV.le,AV.leL,AObj.le,inH,idsT,idsH,AV.ids,AV.idsL,AV.idsR,AObj.ids,lk,hget,go_sem,aeq,aeq.aeqF,simprocAttr,← hR,← hL,hb1,hb2])|refine fun (r2:Rnd _)=>?_|with_reducible refine And.intro ?_ ?_|exact ‹_<+:_› |omega|assumption|refine fun (hg:(_:Bool)=(_:Bool))=>?_|clear hK K)
   rintro zs rfl
   rw [hT]
   rfl
 ·have hb1:(R.2 !=0)=true:=by simpa using h1
  rw [if_pos h1] at hT
  have hpr:([]++ [[.d (.int .i64 0),.d (.int .i64 R.2)]])<+:T0:=⟨[],by rw [hT];rfl⟩
  (have tk:=za zcZ <| za zfJ <| zb Tryz.prog);repeat' (first|(refine zo (fun i=>decide (i<3)) (by simp only [inH,idsH,hsel,AV.ids,AV.idsL,AV.idsR,AObj.ids,hget,go_sem,aeq,aeq.aeqF,simprocAttr]) ?_;simp only [go_sem,aeq,aeq.aeqF,simprocAttr,← hR,hb1,hsel,keepT];refine zu ?_;simp only [go_sem,aeq,aeq.aeqF,simprocAttr,← hR,hb1])|((first|(refine ya ?_;intro K hK)|refine yb ?_);simp only [go_sem,aeq,aeq.aeqF,simprocAttr,← hR,hb1])|refine zj (fun K hK=>?_)|refine sc ?_|refine zi rfl (fun hc=>?_) (fun hc=>?_)|(refine hK _ ?_;clear hK K)|((first|refine (show AS.le _ _ from ?_)|refine (show leH _ _ from ?_)|refine (show inH _ _ from ?_));simp only [AS.le,leT,leH,zc,AsgK,AV.le,AV.leL,AObj.le,inH,idsT,idsH,AV.ids,AV.idsL,AV.idsR,AObj.ids,lk,hget,go_sem,aeq,aeq.aeqF,simprocAttr,← hR,hb1])|refine fun (r2:Rnd _)=>?_|with_reducible refine And.intro ?_ ?_|exact ‹_<+:_› |omega|assumption|refine fun (hg:(_:Bool)=(_:Bool))=>?_|clear hK K)
  rintro zs rfl
  rw [hT]
  rfl
def cntA (d:Disk) (l:List Int):List Int:=l.flatMap (fun t=>(reach d p0 t).1++ [t])
def nC (a:List Int):List AV:=(cnts 256 a).map (fun v=>AV.d (.int .i64 v))
theorem zlh:∀l:List Int,AV.idsL (l.map (fun v=>AV.d (.int .i64 v)))= []
 | []=>rfl
 |x::l=>by simp only [List.map_cons,AV.idsL,AV.ids,List.nil_append];exact zlh l
theorem zuI (a:List Int):(nC a).length=256:=by rw [nC,List.length_map,za6]
theorem zuJ (a:List Int):AV.idsL (nC a)= []:=zlh _
theorem zuK (a:List Int):(nC a).all AV.isD=true:=by
 rw [nC,List.all_map]
 exact List.all_eq_true.2 (fun _ _=>rfl)
theorem zuL (a:List Int):(nC a).map AV.oneD=(cnts 256 a).map intD:=by
 rw [nC,List.map_map]
 rfl
theorem zra {n:Nat} (a:List Int) (h:n≤256):((cnts 256 a).map intD).take n=(cnts n a).map intD:=by
 unfold cnts
 rw [← List.map_take,← List.map_take,List.take_range,Nat.min_eq_left h]
theorem zuM:nC []=List.replicate 256 (.d (.int .i64 0)):=by
 unfold nC cnts
 rw [List.map_map]
 exact List.eq_replicate_iff.2 ⟨by rw [List.length_map,List.length_range],fun b hb=>by obtain ⟨i,_,rfl⟩:=List.mem_map.1 hb;simp⟩
@[simp, go_sem] theorem cntA_nil (d:Disk):cntA d []= []:=rfl
theorem zuN (a:List Int) {k:Nat} (h:k<256):(nC a)[k]?=some (.d (.int .i64 ((a.count (k:Int):Nat):Int))):=by
 rw [nC,List.getElem?_map,zgm a h];rfl
theorem zuO (a:List Int) {k:Nat} (h:k<256):(nC a).set k (.d (.int .i64 (((a.count (k:Int):Nat):Int)+1)))=nC (a++ [(k:Int)]):=by
 rw [nC,nC,← znr a h,List.map_set]
theorem zsQ (d:Disk) (l:List Int) (t:Int):cntA d (l++ [t])=cntA d l++((reach d p0 t).1++ [t]):=by
 unfold cntA
 rw [List.flatMap_append,List.flatMap_cons,List.flatMap_nil,List.append_nil]
theorem zmB (l:List Int) (hl:l.length≤5000):AC 48 [.d (.sl 1 (l.map intD))] (.d (.sl 1 (l.map intD))):=by
 refine fbod Tryz.func48 Tryz.ntmps48 (fun base=>?_)
 (repeat' (first|(refine hK _ ?_;clear hK K)|refine wa fun K hK=>?_|refine wb ?_|refine wc ?_ ?_|refine fun (nb:Bool) (hnb:nb=true→_)=>?_|exact we|refine fun (hc:_=(_:Bool))=>?_|clear hK K))
 rw [hnb hc]
@[go_sem] noncomputable def zdK:Ent Tryz.prog 48:= .m1 (slT 1 intD zbY) zmB
theorem ACallAt.le {P:Program} {fl:Nat} {f:FuncId} {args args':List AV} {h:AHeap} {K:AV→AHeap→Prop} (hl:AV.leL args args') (hc:ACallAt P fl f args' h K):ACallAt P fl f args h K:=⟨hc.1,fun E w vs hs hr=>hc.2 E w vs hs (Reps.le _ _ _ hl hr)⟩
attribute [local simp, local go_sem] AV.leL_refl zuJ zuI
theorem zoW (x:Img) (hp:ImgF x∧0≤x.geom.host):AC 11 [imgA x] (.tup [.d (.sl 1 ((zW x).1.map intD)),.d (.int .i64 (zW x).2)]):=by
 obtain ⟨h,hh⟩:=hp
 refine fbod Tryz.func11 Tryz.ntmps11 (fun base=>?_)
 have hdp:DP x.disk p0:=⟨h.disk,zb4⟩
 have hho:=h.host
 (repeat' ((fail_if_success refine hds 1 (by rfl) ?_);first|(refine hK _ ?_;clear hK K)|refine wa fun K hK=>?_|refine wb ?_|refine wc ?_ ?_|refine wl ?_|refine fun (r2:Rnd _)=>?_|refine fun (nb:Bool) (hnb:nb=true→_)=>?_|exact ‹_<+:_› |exact we|refine fun (hc:_=(_:Bool))=>?_|clear hK K))
 refine zgA 0 rfl ?_
 refine aw_le ⟨[(1,true,.dp (imgV x)),(2,true,.vp 1 0),(3,true,.vp 2 0)],[(2,.var [.d (.int .i64 0)]),(1,.var [.nils 1])],some []⟩ (by simp only [AS.le,leT,leH,zc,AsgK,AV.le,AV.leL,AObj.le,inH,idsT,idsH,AV.ids,AV.idsL,AV.idsR,AObj.ids,lk,hget,go_sem,aeq,aeq.aeqF,simprocAttr,List.drop_zero]) ?_
 (repeat' ((fail_if_success refine hds 2 (by rfl) ?_);first|(refine hK _ ?_;clear hK K)|refine wa fun K hK=>?_|refine wb ?_|refine wc ?_ ?_|refine wl ?_|refine fun (r2:Rnd _)=>?_|refine fun (nb:Bool) (hnb:nb=true→_)=>?_|exact ‹_<+:_› |exact we|refine fun (hc:_=(_:Bool))=>?_|clear hK K))
 refine aw_le ⟨[(1,true,.dp (imgV x)),(2,true,.vp 1 0),(3,true,.vp 2 0),(4,true,.vp 0 0)],[(0,.var (nC [])),(2,.var [.d (.int .i64 0)]),(1,.var [.nils 1])],some []⟩ (by simp only [AS.le,leT,leH,zc,AsgK,AV.le,AV.leL,AObj.le,inH,idsT,idsH,AV.ids,AV.idsL,AV.idsR,AObj.ids,lk,hget,go_sem,aeq,aeq.aeqF,simprocAttr,zuM]) ?_
 obtain ⟨F,hF⟩:∃F,F=firsts x.disk:=⟨_,rfl⟩
 obtain ⟨n,hn⟩:∃n:Nat,x.geom.host=n:=⟨x.geom.host.toNat,by omega⟩
 have hac:zW x=if F.2≠0 then ([],F.2) else if (cntK x.disk n F.1 []).2≠0 then ([],(cntK x.disk n F.1 []).2) else (cnts n (cntK x.disk n F.1 []).1,0):=by rw [zW,hF,hn,Int.toNat_natCast]
 have hfl:F.1.length≤9:=by rw [hF];exact zfI _
 have hfr:∀t∈F.1,0≤t∧t≤65535:=by rw [hF];exact ziB _
 have hit:=zoV x h
 have htb:zhl x.disk=if F.2≠0 then [(0,F.2)] else F.1.map (fun t=>(t,0)):=by rw [zhl,hF]
 obtain ⟨Q,hQ⟩:∃Q,Q=zhl x.disk:=⟨_,rfl⟩
 rw [← hQ] at hit htb
 obtain ⟨J,hJ⟩:∃J:Code→AHeap→Option (List (List AV))→Prop,J=fun c h g=>c= .ret∧g=some []∧∃cs e,zW x=([],e)∧h= [(0,.var cs),(2,.var [.d (.int .i64 e)]),(1,.var [.nils 1])]:=⟨_,rfl⟩
 (have tk:=za zea <| za zdK <| zb Tryz.prog;repeat' (first|(refine hK _ ?_;clear hK K)|refine wa fun K hK=>?_|refine wb ?_|refine wc ?_ ?_|refine wl ?_|refine fun (r2:Rnd _)=>?_|refine fun (nb:Bool) (hnb:nb=true→_)=>?_|exact ‹_<+:_› |exact we|refine fun (hc:_=(_:Bool))=>?_|clear hK K))
 by_cases hf:F.2=0
 ·rw [if_neg (by simpa using hf)] at htb hac
  obtain ⟨I,hI⟩:∃I:List (List AV)→AHeap×Option (List (List AV)),I=fun xs=>([(0,.var (nC (cntA x.disk (F.1.take xs.length)))),(2,.var [.d (.int .i64 0)]),(1,.var [.nils 1])],some []):=⟨_,rfl⟩
  obtain ⟨G,hG⟩:∃G:List (List AV)→Prop,G=fun xs=>xs.length≤F.1.length∧cntK x.disk n F.1 []=cntK x.disk n (F.1.drop xs.length) (cntA x.disk (F.1.take xs.length))∧(cntA x.disk (F.1.take xs.length)).length≤69*xs.length:=⟨_,rfl⟩
  refine zbe 3 G I J (hit) (by simp only [go_sem,aeq,aeq.aeqF,simprocAttr]) rfl (zaP rfl) (by simp [cxOf,cxY]) rfl (by rw [hG];first|trivial|rfl|simp) (by rw [hI];simp only [AS.le,leT,leH,zc,AsgK,AV.le,AV.leL,AObj.le,inH,idsT,idsH,AV.ids,AV.idsL,AV.idsR,AObj.ids,lk,hget,go_sem,aeq,aeq.aeqF,simprocAttr]<;>simp [AV.leL,AV.le]) (by rw [hI];simp only [AS.le,leT,leH,zc,AsgK,AV.le,AV.leL,AObj.le,inH,idsT,idsH,AV.ids,AV.idsL,AV.idsR,AObj.ids,lk,hget,go_sem,aeq,aeq.aeqF,simprocAttr]<;>simp) (by rw [hI]<;>rfl) (by intro x hx;obtain ⟨q,_,rfl⟩:=List.mem_map.1 hx;rfl) (by intro t ht;simp at ht;first|(rcases ht with rfl|rfl<;>simp [cxOf,cxY]<;>done)|(subst ht;simp [cxOf,cxY])) ?_ ?_ ?_
  ·intro xs x1 hpre hgd l1 r1
   rw [hG] at hgd
   obtain ⟨g1,g2,g3⟩:=hgd
   obtain ⟨ys,q,zs,hys,rfl,hzl⟩:=zdb hpre
   have hln:xs.length=ys.length:=by rw [hys];simp
   have hqQ:Q[xs.length]?=some q:=by rw [hzl,hln];simp
   obtain ⟨t,ht,rfl⟩:∃t,F.1[xs.length]?=some t∧q=(t,0):=by
    rw [htb,List.getElem?_map] at hqQ
    obtain ⟨t,h1,h2⟩:=Option.map_eq_some_iff.1 hqQ
    exact ⟨t,h1,h2.symm⟩
   have htr:=hfr t (List.mem_of_getElem? ht)
   have htk:=zbm ht
   have hdr:=zcH ht
   obtain ⟨k,rfl⟩:∃k:Nat,t=k:=⟨t.toNat,by omega⟩
   obtain ⟨a,ha⟩:∃a,a=cntA x.disk (F.1.take xs.length):=⟨_,rfl⟩
   rw [← ha] at g2 g3
   rw [hdr,cntK] at g2
   simp only [freeI]
   refine aw_le ⟨[(13,true,.d (.int .i64 (k:Int))),(14,true,.d (.int .i64 0)),(1,true,.dp (imgV x)),(2,true,.vp 1 0),(3,true,.vp 2 0),(4,true,.vp 0 0)],[(0,.var (nC a)),(2,.var [.d (.int .i64 0)]),(1,.var [.nils 1])],some []⟩ (by rw [hI,ha];simp only [AS.le,leT,leH,zc,AsgK,AV.le,AV.leL,AObj.le,inH,idsT,idsH,AV.ids,AV.idsL,AV.idsR,AObj.ids,lk,hget,go_sem,aeq,aeq.aeqF,simprocAttr]) ?_
   by_cases hkn:n≤k
   ·have hc1:decide (x.geom.host≤(k:Int))=true:=decide_eq_true (by omega)
    rw [if_pos (by omega)] at g2
    (have tk:=zb Tryz.prog;have fx:=hc1;repeat' (first|(refine hK _ ?_;clear hK K)|refine wa fun K hK=>?_|refine wb ?_|refine wc ?_ ?_|refine wl ?_|refine fun (r2:Rnd _)=>?_|refine fun (nb:Bool) (hnb:nb=true→_)=>?_|exact ‹_<+:_› |exact we|refine fun (hc:_=(_:Bool))=>?_|clear hK K))
    rw [hJ]
    exact ⟨rfl,rfl,_,26,by rw [hac,g2,if_pos (by simp)],rfl⟩
   have hc1:decide (x.geom.host≤(k:Int))=false:=decide_eq_false (by omega)
   rw [if_neg (by omega)] at g2
   have hown:=zmA x.disk p0 k hdp
   have hWr:∀y∈(reach x.disk p0 k).1,0≤y∧y<256:=zk2
   have hWl:=ze9 (d:=x.disk) (p:=p0) (t:=(k:Int))
   have hcA:=zsQ x.disk (F.1.take xs.length) k
   rw [← htk,← ha] at hcA
   obtain ⟨W,hW⟩:∃W,W=reach x.disk p0 k:=⟨_,rfl⟩
   rw [← hW] at g2 hown hWr hWl hcA
   (have tk:=zb Tryz.prog;have fx:=hc1;repeat' (first|(refine hK _ ?_;clear hK K)|refine wa fun K hK=>?_|refine wb ?_|refine wc ?_ ?_|refine wl ?_|refine fun (r2:Rnd _)=>?_|refine fun (nb:Bool) (hnb:nb=true→_)=>?_|exact ‹_<+:_› |exact we|refine fun (hc:_=(_:Bool))=>?_|clear hK K))
   refine ACallAt.le (args':= [diskA x.disk,planA p0,.d (.int .i64 (k:Int))]) (by simp [AV.leL,AV.le,diskA,planA,p0]) ?_
   refine (ACall.own (h:= [(0,.var (nC a)),(2,.var [.d (.int .i64 0)]),(1,.var [.nils 1])]) (fl':=3) hown rfl rfl (Nat.le_refl _) ?_).mono ?_
   ·rintro r h' (⟨_,rfl,a',rfl⟩|⟨_,rfl,rfl⟩)<;>rfl
   rintro r h' ⟨h1,⟨hz,rfl,a',rfl⟩|⟨hz,rfl,rfl⟩,rfl⟩
   ·have hb:(W.2 !=0)=true:=by simpa using hz
    rw [if_pos hz] at g2
    simp only [go_sem,aeq,aeq.aeqF,simprocAttr]
    refine hK _ ?_
    clear hK K
    (have tk:=zb Tryz.prog;have fx:=hb;repeat' ((fail_if_success refine hds 11 (by rfl) ?_);first|(refine hK _ ?_;clear hK K)|refine wa fun K hK=>?_|refine wb ?_|refine wc ?_ ?_|refine wl ?_|refine fun (r2:Rnd _)=>?_|refine fun (nb:Bool) (hnb:nb=true→_)=>?_|exact ‹_<+:_› |exact we|refine fun (hc:_=(_:Bool))=>?_|clear hK K))
    refine aw_le ⟨[(8,true,.d (.int .i64 W.2)),(2,true,.vp 1 0),(3,true,.vp 2 0)],[(0,.var (nC a)),(2,.var [.d (.int .i64 0)]),(1,.var [.nils 1])],some []⟩ le0 ?_
    (have tk:=zb Tryz.prog;have fx:=Go.Aw.fx;repeat' (first|(refine hK _ ?_;clear hK K)|refine wa fun K hK=>?_|refine wb ?_|refine wc ?_ ?_|refine wl ?_|refine fun (r2:Rnd _)=>?_|refine fun (nb:Bool) (hnb:nb=true→_)=>?_|exact ‹_<+:_› |exact we|refine fun (hc:_=(_:Bool))=>?_|clear hK K))
    rw [hJ]
    exact ⟨rfl,rfl,_,W.2,by rw [hac,g2,if_pos hz],rfl⟩
   rw [if_neg (by simpa using hz)] at g2
   simp only [go_sem,aeq,aeq.aeqF,simprocAttr]
   refine hK _ ?_
   clear hK K
   obtain ⟨V,hV⟩:∃V,V=W.1++ [(k:Int)]:=⟨_,rfl⟩
   have hVl:V.length=W.1.length+1:=by rw [hV];simp
   have hVr:∀y∈V,0≤y∧y≤65535:=by
    intro y hy
    rw [hV] at hy
    rcases List.mem_append.1 hy with hy|hy
    ·have:=hWr y hy;omega
    ·rw [List.mem_singleton] at hy;omega
   have hVm:V.map intD=W.1.map intD++ [[.int .i64 k]]:=by rw [hV];simp [intD]
   have hWm:(W.1.map intD).length=W.1.length:=List.length_map _
   (have tk:=zb Tryz.prog;have fx:=hWm;repeat' (first|(refine hK _ ?_;clear hK K)|refine wa fun K hK=>?_|refine wb ?_|refine wc ?_ ?_|refine wl ?_|refine fun (r2:Rnd _)=>?_|refine fun (nb:Bool) (hnb:nb=true→_)=>?_|exact ‹_<+:_› |exact we|refine fun (hc:_=(_:Bool))=>?_|clear hK K))
   all_goals first|omega|exact (by rw [← hVm,List.length_map,hVl])|skip
   refine zn (fun q: { j:Nat // j≤V.length∧∀y∈V.take j,y<n } =>⟨[(1,true,.dp (imgV x)),(2,true,.vp 1 0),(3,true,.vp 2 0),(4,true,.vp 0 0),(37,true,.osl 12 1 V.length 0 V.length),(38,true,.d (.int .i64 V.length)),(39,true,.d (.int .i64 q.1))],[(12,.arr 1 (V.map intD)),(0,.var (nC (a++V.take q.1))),(2,.var [.d (.int .i64 0)]),(1,.var [.nils 1])],some []⟩) (fun q=>V.length - q.1) ⟨0,Nat.zero_le _,fun y hy=>by simp at hy⟩ (by simp only [hVl,hVm];simp only [AS.le,leT,leH,zc,AsgK,AV.le,AV.leL,AObj.le,inH,idsT,idsH,AV.ids,AV.idsL,AV.idsR,AObj.ids,lk,hget,go_sem,aeq,aeq.aeqF,simprocAttr,List.append_nil,List.take_zero]<;>and_intros<;>rfl) (fun q=>?_)
   obtain ⟨j,hj,hjn⟩:=q
   simp only
   rcases zG intD V j hj with ⟨v,hvq,hlt,hcmp,hrow,hdr2,htk2⟩|⟨hend,hcmp⟩
   ·simp only [intD] at hrow
    have hwj:=zq (i:=j) (by omega)
    have hvr:=hVr v (List.mem_of_getElem? hvq)
    obtain ⟨u,rfl⟩:∃u:Nat,v=u:=⟨v.toNat,by omega⟩
    have hVml:(V.map intD).length=V.length:=List.length_map _
    by_cases hnu:n≤u
    ·have hc2:decide (x.geom.host≤(u:Int))=true:=decide_eq_true (by omega)
     (have tk:=zb Tryz.prog;have fx:=(⟨hcmp,hrow,hVml,@Int.toNat_natCast,hc2⟩:_∧_∧_∧_∧_);repeat' ((fail_if_success refine hds 16 (by rfl) ?_);first|(refine hK _ ?_;clear hK K)|refine wa fun K hK=>?_|refine wb ?_|refine wc ?_ ?_|refine wl ?_|refine fun (r2:Rnd _)=>?_|refine fun (nb:Bool) (hnb:nb=true→_)=>?_|exact ‹_<+:_› |exact we|refine fun (hc:_=(_:Bool))=>?_|clear hK K))
     refine aw_le ⟨[(2,true,.vp 1 0),(3,true,.vp 2 0)],[(0,.var (nC (a++V.take j))),(2,.var [.d (.int .i64 0)]),(1,.var [.nils 1])],some []⟩ le0 ?_
     (have tk:=zb Tryz.prog;have fx:=Go.Aw.fx;repeat' (first|(refine hK _ ?_;clear hK K)|refine wa fun K hK=>?_|refine wb ?_|refine wc ?_ ?_|refine wl ?_|refine fun (r2:Rnd _)=>?_|refine fun (nb:Bool) (hnb:nb=true→_)=>?_|exact ‹_<+:_› |exact we|refine fun (hc:_=(_:Bool))=>?_|clear hK K))
     rw [hJ]
     have hany:W.1.any (fun k=>decide ((n:Int)≤k))=true:=by
      have hm:=List.mem_of_getElem? hvq
      rw [hV] at hm
      rcases List.mem_append.1 hm with hm|hm
      ·exact List.any_eq_true.2 ⟨u,hm,decide_eq_true (by omega)⟩
      ·rw [List.mem_singleton] at hm;omega
     exact ⟨rfl,rfl,_,26,by rw [hac,g2,if_pos hany,if_pos (by simp)],rfl⟩
    ·have hc2:decide (x.geom.host≤(u:Int))=false:=decide_eq_false (by omega)
     have hu:u<256:=by omega
     obtain ⟨A,hA⟩:∃A,A=a++V.take j:=⟨_,rfl⟩
     rw [← hA]
     have hg1:(nC A).getD (u*1) AV.any= .d (.int .i64 ((A.count (u:Int):Nat):Int)):=by rw [Nat.mul_one,List.getD_eq_getElem?_getD,zuN A hu];rfl
     have hs1:putL (nC A) (u*1) [.d (.int .i64 (((A.count (u:Int):Nat):Int)+1))]=nC (A++ [(u:Int)]):=by rw [Nat.mul_one,← zuO A hu];rfl
     have hxl:=(List.getElem?_eq_some_iff.1 ht).1
     have hAl:A.length≤69*10:=by rw [hA,List.length_append,List.length_take];omega
     have hcl:=zgn (k:=(u:Int)) hAl
     have hwc:IntKind.i64.wrap (((A.count (u:Int):Nat):Int)+1)=((A.count (u:Int):Nat):Int)+1:=zh (by omega) (by omega)
     have hA2:A++ [(u:Int)]=a++V.take (j+1):=by rw [hA,htk2,List.append_assoc]
     (have tk:=zb Tryz.prog;have fx:=(⟨hcmp,hrow,hVml,@Int.toNat_natCast,hc2,hg1,hs1,hwc⟩:_∧_∧_∧_∧_∧_∧_∧_);repeat' (first|(refine hK _ ?_;clear hK K)|refine wa fun K hK=>?_|refine wb ?_|refine wc ?_ ?_|refine wl ?_|refine fun (r2:Rnd _)=>?_|refine fun (nb:Bool) (hnb:nb=true→_)=>?_|exact ‹_<+:_› |exact we|refine fun (hc:_=(_:Bool))=>?_|clear hK K))
     all_goals first|omega|skip
     exact ⟨⟨j+1,by omega,fun y hy=>by
      rw [htk2] at hy
      rcases List.mem_append.1 hy with hy|hy
      ·exact hjn y hy
      ·rw [List.mem_singleton] at hy;omega⟩,by rw [← hA2];simp only [AS.le,leT,leH,zc,AsgK,AV.le,AV.leL,AObj.le,inH,idsT,idsH,AV.ids,AV.idsL,AV.idsR,AObj.ids,lk,hget,go_sem,aeq,aeq.aeqF,simprocAttr,hwj],by simp;omega⟩
   ·have hVt:V.take j=V:=by rw [hend,List.take_length]
    rw [hVt] at hjn ⊢
    have hano:¬W.1.any (fun k=>decide ((n:Int)≤k))=true:=by
     rw [List.any_eq_true]
     rintro ⟨y,hy,h9⟩
     have:=hjn y (by rw [hV];exact List.mem_append.2 (.inl hy))
     have:=of_decide_eq_true h9
     omega
    rw [if_neg hano,← hcA] at g2
    have hxl:=(List.getElem?_eq_some_iff.1 ht).1
    have hcl:(cntA x.disk (F.1.take (xs.length+1))).length≤69*(xs.length+1):=by
     rw [hcA];simp only [List.length_append,List.length_cons,List.length_nil];omega
    have haV:a++V=cntA x.disk (F.1.take (xs.length+1)):=by rw [hcA,hV]
    rw [haV]
    (have tk:=zb Tryz.prog);repeat' (first|((first|(refine sa ?_;intro K hK)|refine sb ?_);simp only [go_sem,aeq,aeq.aeqF,simprocAttr,hcmp,hI,List.length_append,List.length_singleton,Tryz.results11])|refine zj (fun K hK=>?_)|refine sc ?_|refine zi rfl (fun hc=>?_) (fun hc=>?_)|(refine hK _ ?_;clear hK K)|((first|refine (show AS.le _ _ from ?_)|refine (show leH _ _ from ?_)|refine (show inH _ _ from ?_));simp only [AS.le,leT,leH,zc,AsgK,AV.le,AV.leL,AObj.le,inH,idsT,idsH,AV.ids,AV.idsL,AV.idsR,AObj.ids,lk,hget,go_sem,aeq,aeq.aeqF,simprocAttr,hcmp,hI,List.length_append,List.length_singleton])|refine fun (r2:Rnd _)=>?_|refine fun (nb:Bool) (hnb:nb=true→_)=>?_|with_reducible refine And.intro ?_ ?_|exact ‹_<+:_› |omega|assumption|clear hK K)
    all_goals first|omega|skip
    rw [hG]
    show (xs++ [freeI ((k:Int),0)]).length≤F.1.length∧cntK x.disk n F.1 []=cntK x.disk n (F.1.drop (xs++ [freeI ((k:Int),0)]).length) (cntA x.disk (F.1.take (xs++ [freeI ((k:Int),0)]).length))∧(cntA x.disk (F.1.take (xs++ [freeI ((k:Int),0)]).length)).length≤69*(xs++ [freeI ((k:Int),0)]).length
    rw [List.length_append,List.length_singleton]
    exact ⟨by omega,g2,hcl⟩
  ·intro hgd
   rw [hG] at hgd
   rw [List.length_map,htb,List.length_map,List.drop_length,List.take_length] at hgd
   obtain ⟨_,g2,_⟩:=hgd
   obtain ⟨A,hA⟩:∃A,A=cntA x.disk F.1:=⟨_,rfl⟩
   rw [← hA,cntK] at g2
   have hfin:zW x=(cnts n A,0):=by rw [hac,g2,if_neg (by simp)]
   have hIq:I (Q.map freeI)=([(0,.var (nC A)),(2,.var [.d (.int .i64 0)]),(1,.var [.nils 1])],some []):=by
    rw [hI,hA,htb]
    simp only [List.length_map,List.take_length]
   rw [hIq]
   have hnt:Int.toNat x.geom.host=n:=by omega
   have hct:=zra A (n:=n) (by omega)
   (have tk:=za zea <| za zdK <| zb Tryz.prog;have fx:=Go.Aw.fx;repeat' ((fail_if_success refine hds 19 (by rfl) ?_);first|(refine hK _ ?_;clear hK K)|refine wa fun K hK=>?_|refine wb ?_|refine wc ?_ ?_|refine wl ?_|refine fun (r2:Rnd _)=>?_|refine fun (nb:Bool) (hnb:nb=true→_)=>?_|exact ‹_<+:_› |exact we|refine fun (hc:_=(_:Bool))=>?_|clear hK K))
   refine aw_le ⟨[(1,true,.dp (imgV x)),(2,true,.vp 1 0),(3,true,.vp 2 0),(4,true,.vp 0 0)],[(0,.var (nC A)),(2,.var [.d (.int .i64 0)]),(1,.var [.nils 1])],some []⟩ (by simp only [AS.le,leT,leH,zc,AsgK,AV.le,AV.leL,AObj.le,inH,idsT,idsH,AV.ids,AV.idsL,AV.idsR,AObj.ids,lk,hget,go_sem,aeq,aeq.aeqF,simprocAttr,keepT]) ?_
   refine zgA 0 rfl ?_
   refine aw_le ⟨[(1,true,.dp (imgV x)),(2,true,.vp 1 0),(3,true,.vp 2 0),(4,true,.dp (nC A))],[(2,.var [.d (.int .i64 0)]),(1,.var [.nils 1])],some []⟩ (by simp only [AS.le,leT,leH,zc,AsgK,AV.le,AV.leL,AObj.le,inH,idsT,idsH,AV.ids,AV.idsL,AV.idsR,AObj.ids,lk,hget,go_sem,aeq,aeq.aeqF,simprocAttr,List.drop_zero]) ?_
   have hisd:=zuK A
   have hcl9:(cnts n A).length≤5000:=by rw [za6];omega
   (have tk:=za zea <| za zdK <| zb Tryz.prog;have fx:=(⟨@zuL,hisd,hnt,hct⟩:_∧_∧_∧_);repeat' (first|(refine hK _ ?_;clear hK K)|refine wa fun K hK=>?_|refine wb ?_|refine wc ?_ ?_|refine wl ?_|refine fun (r2:Rnd _)=>?_|refine fun (nb:Bool) (hnb:nb=true→_)=>?_|exact ‹_<+:_› |exact we|refine fun (hc:_=(_:Bool))=>?_|clear hK K))
   all_goals first|omega|skip
   rw [hfin]
  ·rw [hJ]
   rintro c h3 g3 ⟨rfl,rfl,cs,e,he,rfl⟩
   (have tk:=zb Tryz.prog;have fx:=Go.Aw.fx;repeat' (first|(refine hK _ ?_;clear hK K)|refine wa fun K hK=>?_|refine wb ?_|refine wc ?_ ?_|refine wl ?_|refine fun (r2:Rnd _)=>?_|refine fun (nb:Bool) (hnb:nb=true→_)=>?_|exact ‹_<+:_› |exact we|refine fun (hc:_=(_:Bool))=>?_|clear hK K))
   rw [he]
   rfl
 ·rw [if_pos hf] at htb hac
  obtain ⟨I,hI⟩:∃I:List (List AV)→AHeap×Option (List (List AV)),I=fun xs=>([(0,.var (nC [])),(2,.var [.d (.int .i64 0)]),(1,.var [.nils 1])],some []):=⟨_,rfl⟩
  obtain ⟨G,hG⟩:∃G:List (List AV)→Prop,G=fun xs=>(xs≠ []→False):=⟨_,rfl⟩
  refine zbe 3 G I J (hit) (by simp only [go_sem,aeq,aeq.aeqF,simprocAttr]) rfl (zaP rfl) (by simp [cxOf,cxY]) rfl (by rw [hG];first|trivial|rfl|simp) (by rw [hI];simp only [AS.le,leT,leH,zc,AsgK,AV.le,AV.leL,AObj.le,inH,idsT,idsH,AV.ids,AV.idsL,AV.idsR,AObj.ids,lk,hget,go_sem,aeq,aeq.aeqF,simprocAttr]<;>simp [AV.leL,AV.le]) (by rw [hI];simp only [AS.le,leT,leH,zc,AsgK,AV.le,AV.leL,AObj.le,inH,idsT,idsH,AV.ids,AV.idsL,AV.idsR,AObj.ids,lk,hget,go_sem,aeq,aeq.aeqF,simprocAttr]<;>simp) (by rw [hI]<;>rfl) (by intro x hx;obtain ⟨q,_,rfl⟩:=List.mem_map.1 hx;rfl) (by intro t ht;simp at ht;first|(rcases ht with rfl|rfl<;>simp [cxOf,cxY]<;>done)|(subst ht;simp [cxOf,cxY])) ?_ ?_ ?_
  ·intro xs x1 hpre hgd l1 r1
   rw [hG] at hgd
   obtain rfl:xs= []:=Classical.byContradiction hgd
   obtain ⟨ys,q,zs,hys,rfl,hzl⟩:=zdb hpre
   have hys0:ys= []:=by cases ys with|nil=>rfl|cons q r=>simp at hys
   subst hys0
   rw [htb,List.nil_append,List.cons.injEq] at hzl
   obtain ⟨rfl,rfl⟩:=hzl
   simp only [freeI]
   have hb:(F.2 !=0)=true:=by simpa using hf
   refine aw_le ⟨[(13,true,.d (.int .i64 0)),(14,true,.d (.int .i64 F.2)),(2,true,.vp 1 0),(3,true,.vp 2 0)],[(0,.var (nC [])),(2,.var [.d (.int .i64 0)]),(1,.var [.nils 1])],some []⟩ (by rw [hI];simp only [AS.le,leT,leH,zc,AsgK,AV.le,AV.leL,AObj.le,inH,idsT,idsH,AV.ids,AV.idsL,AV.idsR,AObj.ids,lk,hget,go_sem,aeq,aeq.aeqF,simprocAttr]) ?_
   (have tk:=zb Tryz.prog;have fx:=hb;repeat' (first|(refine hK _ ?_;clear hK K)|refine wa fun K hK=>?_|refine wb ?_|refine wc ?_ ?_|refine wl ?_|refine fun (r2:Rnd _)=>?_|refine fun (nb:Bool) (hnb:nb=true→_)=>?_|exact ‹_<+:_› |exact we|refine fun (hc:_=(_:Bool))=>?_|clear hK K))
   rw [hJ]
   exact ⟨rfl,rfl,_,F.2,hac,rfl⟩
  ·intro hgd
   rw [hG,htb] at hgd
   exact absurd rfl (fun _:(1:Nat)=1=>hgd (by simp))
  ·rw [hJ]
   rintro c h3 g3 ⟨rfl,rfl,cs,e,he,rfl⟩
   (have tk:=zb Tryz.prog;have fx:=Go.Aw.fx;repeat' (first|(refine hK _ ?_;clear hK K)|refine wa fun K hK=>?_|refine wb ?_|refine wc ?_ ?_|refine wl ?_|refine fun (r2:Rnd _)=>?_|refine fun (nb:Bool) (hnb:nb=true→_)=>?_|exact ‹_<+:_› |exact we|refine fun (hc:_=(_:Bool))=>?_|clear hK K))
   rw [he]
   rfl
@[go_sem] noncomputable def zc6:Ent Tryz.prog 11:= .m1 zci zoW
open Go Go.Proofs
theorem zoX (x:Img) (hp:ImgF x∧0≤x.geom.host):AC 13 [imgA x] (.tup [.d (.sl 3 ((zK x).1.map fndD)),.d (.int .i64 (zK x).2)]):=by
 obtain ⟨h,hh⟩:=hp
 refine fbod Tryz.func13 Tryz.ntmps13 (fun base=>?_)
 have hdp:DP x.disk p0:=⟨h.disk,zb4⟩
 obtain ⟨C,hC⟩:∃C,C=zW x:=⟨_,rfl⟩
 obtain ⟨H,hH⟩:∃H,H=rall x.disk p0 x.geom.host:=⟨_,rfl⟩
 have hac:zK x=if C.2≠0 then ([],C.2) else if H.2≠0 then ([],H.2) else (fnds 0 C.1 H.1,0):=by rw [zK,hC,hH]
 (have tk:=za zc6 <| za zdJ <| zb Tryz.prog;have fx:=(⟨hC.symm,hH.symm⟩:_∧_);repeat' (first|(refine hK _ ?_;clear hK K)|refine wa fun K hK=>?_|refine wb ?_|refine wc ?_ ?_|refine fun (nb:Bool) (hnb:nb=true→_)=>?_|exact we|refine fun (hc:_=(_:Bool))=>?_|clear hK K))
 ·rw [hac,if_pos (bneP hc)]
  rfl
 ·rename_i h0
  rw [hac,if_neg (bneN h0),if_pos (bneP hc)]
  rfl
 rename_i h0
 have hCe:C.2=0:=by simpa using bneN h0
 have hHe:H.2=0:=by simpa using bneN hc
 rw [if_neg (bneN h0),if_neg (bneN hc)] at hac
 have hln:C.1.length=H.1.length:=by
  have h1:=zeo (x:=x) (by rw [← hC];exact hCe)
  have h2:=zsK (d:=x.disk) (p:=p0) (n:=x.geom.host) (by rw [← hH];exact hHe)
  rw [← hC] at h1
  rw [← hH] at h2
  omega
 have hcl:C.1.length≤1000000:=by
  have h1:=zeo (x:=x) (by rw [← hC];exact hCe)
  have h2:=h.host
  rw [← hC] at h1
  omega
 refine zcT 7 3 rfl ?_
 simp only [fresh,top,hget, ↓reduceIte]
 refine zn (fun q: { q:Nat×List Fnd // q.1≤H.1.length∧q.2.length≤q.1∧fnds 0 C.1 H.1=q.2++fnds q.1 (C.1.drop q.1) (H.1.drop q.1) } =>⟨[(4,true,.d (.sl 1 (C.1.map intD))),(7,true,.osl 1 3 q.1.2.length 0 q.1.2.length),(31,true,.d (.sl 1 (H.1.map intD))),(32,true,.d (.int .i64 H.1.length)),(33,true,.d (.int .i64 q.1.1))],[(1,.arr 3 (q.1.2.map fndD))],some []⟩) (fun q=>H.1.length - q.1.1) ⟨(0,[]),Nat.zero_le _,Nat.le_refl _,rfl⟩ le1 (fun q=>?_)
 obtain ⟨⟨i,l⟩,hi,hlen,hl⟩:=q
 simp only at hi hlen hl ⊢
 rcases zG intD H.1 i hi with ⟨v,hq,hlt,hcmp,hrow,hdr,htk⟩|⟨hend,hcmp⟩
 ·obtain ⟨w,hv⟩:=zal (l:=C.1) (i:=i) (by omega)
  have hrow2:=zcf (g:=intD) hv
  simp only [intD] at hrow hrow2
  have hwi:=zq (i:=i) (by omega)
  have hlc:((C.1.length:Nat):Int)=(H.1.length:Int):=by omega
  rw [hdr,zcH hv,zqZ] at hl
  by_cases e:v=w
  ·have hb:(v !=w)=false:=by simp [e]
   rw [if_neg (by simpa using e),List.nil_append] at hl
   (have tk:=za zc6 <| za zdJ <| zb Tryz.prog;have fx:=(⟨hcmp,hrow,hrow2,hb,@Int.toNat_natCast⟩:_∧_∧_∧_∧_);repeat' (first|(refine hK _ ?_;clear hK K)|refine va fun K hK=>?_|refine vb ?_|refine wc ?_ ?_|refine fun (nb:Bool) (hnb:nb=true→_)=>?_|exact we|refine fun (hc:_=(_:Bool))=>?_|clear hK K))
   exact ⟨⟨(i+1,l),by omega,by simp only;omega,hl⟩,lew,by simp;omega⟩
  ·have hb:(v !=w)=true:=by simpa using e
   rw [if_pos e,← List.append_assoc] at hl
   (have tk:=za zc6 <| za zdJ <| zb Tryz.prog;have fx:=(⟨hcmp,hrow,hrow2,hb,@Int.toNat_natCast⟩:_∧_∧_∧_∧_);repeat' (first|(refine hK _ ?_;clear hK K)|refine va fun K hK=>?_|refine vb ?_|refine wc ?_ ?_|refine fun (nb:Bool) (hnb:nb=true→_)=>?_|exact we|refine fun (hc:_=(_:Bool))=>?_|clear hK K))
   exact ⟨⟨(i+1,l++ [⟨i,w,v⟩]),by omega,by simp;omega,hl⟩,by simp only [List.map_append,List.length_append,List.length_singleton];simp only [AS.le,leT,leH,zc,AsgK,AV.le,AV.leL,AObj.le,inH,idsT,idsH,AV.ids,AV.idsL,AV.idsR,AObj.ids,lk,hget,go_sem,aeq,aeq.aeqF,simprocAttr,hwi]<;>and_intros<;>rfl,by simp;omega⟩
 ·(have tk:=za zc6 <| za zdJ <| zb Tryz.prog;have fx:=hcmp;repeat' (first|(refine hK _ ?_;clear hK K)|refine wa fun K hK=>?_|refine wb ?_|refine wc ?_ ?_|refine fun (nb:Bool) (hnb:nb=true→_)=>?_|exact we|refine fun (hc:_=(_:Bool))=>?_|clear hK K))
  rw [hac,hl,hend,List.drop_length]
  cases h9:C.1.drop H.1.length with
  |nil=>simp [fnds]
  |cons a l=>simp [fnds]
@[go_sem] noncomputable def zF:Ent Tryz.prog 13:= .m1 zci zoX
theorem zrb (f:Fnd) (_:True):AC 56 [fndA f] (.d (.bool (decide (f.have_<f.want)))):=by
 refine fbod Tryz.func56 Tryz.ntmps56 (fun base=>?_)
 (repeat' (first|(refine hK _ ?_;clear hK K)|refine wa fun K hK=>?_|refine wb ?_|refine wc ?_ ?_|exact we|clear hK K))
@[go_sem] noncomputable def zmC:Ent Tryz.prog 56:= .m1 zti zrb
theorem zrc (l:List Fnd) (hl:l.length≤9223372036854775807):ACall Tryz.prog 135 0 [.d (.sl 3 (l.map fndD)),.fn (.func 56) [] []] [] (fun r _=>r= .d (.int .i64 (idxP (fun f=>decide (f.have_<f.want)) l 0))):=by
 refine bod Tryz.func135 Tryz.ntmps135 (fun base=>?_)
 (repeat' (first|(refine hK _ ?_;clear hK K)|refine wa fun K hK=>?_|refine wb ?_|refine wc ?_ ?_|exact we|refine fun (hc:_=(_:Bool))=>?_|clear hK K))
 refine zn (fun q:Idst (fun f=>decide (f.have_<f.want)) l=>⟨[(0,true,.d (.sl 3 (l.map fndD))),(1,true,.fn (.func 56) [] []),(7,true,.d (.int .i64 l.length)),(8,true,.d (.int .i64 q.1))],[],some []⟩) (fun q=>l.length - q.1) ⟨0,Nat.zero_le _,rfl⟩ le1 (fun q=>?_)
 obtain ⟨i,hi,hf⟩:=q
 simp only at hi hf ⊢
 rcases zG fndD l i hi with ⟨⟨m,s,u⟩,hq,hlt,hcmp,hrow,hdr,htk⟩|⟨hend,hcmp⟩
 ·simp only [fndD] at hrow
  have hwi:=zq (i:=i) (by omega)
  (have tk:=za zmC <| zb Tryz.prog;have fx:=(⟨hcmp,hrow⟩:_∧_);repeat' (first|(refine hK _ ?_;clear hK K)|refine wa fun K hK=>?_|refine wb ?_|refine wc ?_ ?_|exact we|refine fun (hc:_=(_:Bool))=>?_|clear hK K))
  ·rw [hf,hdr,idxP,if_pos (by simpa using hc)]
  ·exact ⟨⟨i+1,by omega,by rw [hf,hdr,idxP,if_neg (by simpa using hc)]⟩,lew,by simp;omega⟩
 ·(have tk:=zb Tryz.prog;have fx:=hcmp;repeat' (first|(refine hK _ ?_;clear hK K)|refine wa fun K hK=>?_|refine wb ?_|refine wc ?_ ?_|exact we|refine fun (hc:_=(_:Bool))=>?_|clear hK K))
  rw [hf,hend,List.drop_length]
  rfl
@[go_sem] noncomputable def zmD:Ent Tryz.prog 135:= .ofL (consL (slT 3 fndD zc2) (consL (fnT 56 nilL) nilL)) (fun (l,_,_)=>l.length≤9223372036854775807) (fun (l,_,_)=> .d (.int .i64 (idxP (fun f=>decide (f.have_<f.want)) l 0))) (fun (l,_,_) hp=>⟨rfl,zrc l hp⟩)
theorem zrd (l:List Fnd) (hl:l.length≤9223372036854775807):ACall Tryz.prog 55 0 [.d (.sl 3 (l.map fndD)),.fn (.func 56) [] []] [] (fun r _=>r= .d (.bool (l.any (fun f=>decide (f.have_<f.want))))):=by
 refine bod Tryz.func55 Tryz.ntmps55 (fun base=>?_)
 (have tk:=za zmD <| zb Tryz.prog;repeat' (first|(refine hK _ ?_;clear hK K)|refine wa fun K hK=>?_|refine wb ?_|refine wc ?_ ?_|exact we|clear hK K))
 rw [zgR]
@[go_sem] noncomputable def zhm:Ent Tryz.prog 55:= .ofL (consL (slT 3 fndD zc2) (consL (fnT 56 nilL) nilL)) (fun (l,_,_)=>l.length≤9223372036854775807) (fun (l,_,_)=> .d (.bool (l.any (fun f=>decide (f.have_<f.want))))) (fun (l,_,_) hp=>⟨rfl,zrd l hp⟩)
theorem zoY (x:Img) (hp:ImgF x∧0≤x.geom.host):AC 19 [imgA x] (.d (.bool (ziy x))):=by
 obtain ⟨h,hh⟩:=hp
 refine fbod Tryz.func19 Tryz.ntmps19 (fun base=>?_)
 have hcl:=zep h
 obtain ⟨C,hC⟩:∃C,C=zK x:=⟨_,rfl⟩
 rw [← hC] at hcl
 have haw:ziy x=(!(C.1.any fun f=>decide (f.have_<f.want))&&(C.2==0)):=by rw [ziy,hC]
 cases hb:C.2==0 with
 |true=>
  (have tk:=za zF <| za zhm <| zb Tryz.prog;have fx:=(⟨hC.symm,hb⟩:_∧_);repeat' (first|(refine hK _ ?_;clear hK K)|refine wa fun K hK=>?_|refine wb ?_|refine wc ?_ ?_|exact we|refine fun (hc:_=(_:Bool))=>?_|clear hK K))
  all_goals first|omega|(rw [haw,hb,Bool.and_true])
 |false=>
  (have tk:=za zF <| za zhm <| zb Tryz.prog;have fx:=(⟨hC.symm,hb⟩:_∧_);repeat' (first|(refine hK _ ?_;clear hK K)|refine wa fun K hK=>?_|refine wb ?_|refine wc ?_ ?_|exact we|refine fun (hc:_=(_:Bool))=>?_|clear hK K))
  all_goals first|omega|(rw [haw,hb,Bool.and_false])
@[go_sem] noncomputable def zc7:Ent Tryz.prog 19:= .m1 zci zoY
theorem zmE (x:Img) (hp:ImgF x∧0≤x.geom.host):AC 15 [imgA x] (.tup [imgA (amend x).1,.d (.int .i64 (amend x).2)]):=by
 obtain ⟨h,hh⟩:=hp
 refine fbod Tryz.func15 Tryz.ntmps15 (fun base=>?_)
 have hcl:=zep h
 have hcr:=fun f=>zoO (x:=x) (f:=f)
 obtain ⟨C,hC⟩:∃C,C=zK x:=⟨_,rfl⟩
 rw [← hC] at hcl hcr
 have ham:amend x=if x.broken then (x,24) else if C.2≠0 then (x,C.2) else if (addsK x.disk C.1 p0).2≠0 then (x,(addsK x.disk C.1 p0).2) else cdone x (addsK x.disk C.1 p0).1:=by rw [amend,hC]
 have hnil:C.2≠0→C.1= []:=by
  intro h0
  rw [hC] at h0 ⊢
  unfold zK at h0 ⊢
  split
  ·rfl
  split
  ·rfl
  ·rename_i h1 h2
   rw [if_neg h1,if_neg h2] at h0
   exact absurd rfl h0
 (have tk:=za zF <| za zbr <| za zb8 <| zb Tryz.prog;have fx:=hC.symm;repeat' (first|(refine hK _ ?_;clear hK K)|refine wa fun K hK=>?_|refine wb ?_|refine wc ?_ ?_|exact we|refine fun (hc:_=(_:Bool))=>?_|clear hK K))
 ·rw [ham,if_pos hc]
 rw [if_neg (by rw [hc];decide)] at ham
 refine zn (fun q: { q:Nat×Plan×Int // q.1≤C.1.length∧DP x.disk q.2.1∧(C.2≠0→q.2.2=C.2)∧(C.2=0→q.2.2=0→addsK x.disk C.1 p0=addsK x.disk (C.1.drop q.1) q.2.1)∧(C.2=0→q.2.2≠0→(addsK x.disk C.1 p0).2=q.2.2) } =>⟨[(1,true,.vp 0 0),(2,true,.vp 1 0),(5,true,.d (.int .i64 q.1.2.2)),(6,true,.vp 2 0),(17,true,.d (.sl 3 (C.1.map fndD))),(18,true,.d (.int .i64 C.1.length)),(19,true,.d (.int .i64 q.1.1))],[(2,(.var [.d (.sl 1 (q.1.2.1.targets.map intD)),.d (.sl 1 (q.1.2.1.texts.map strD))])),(1,.var img0),(0,.var (imgV x))],some []⟩) (fun q=>C.1.length - q.1.1) ⟨(0,p0,C.2),Nat.zero_le _,⟨h.disk,zb4⟩,fun _=>rfl,fun _ _=>rfl,fun h1 h2=>absurd h1 h2⟩ le1 (fun q=>?_)
 obtain ⟨⟨i,p,e⟩,hi,hp,h1,h2,h3⟩:=q
 simp only at hi hp h1 h2 h3 ⊢
 rcases zG fndD C.1 i hi with ⟨u,hq,hlt,hcmp,hrow,hdr,htk⟩|⟨hend,hcmp⟩
 ·have hur:=hcr u (List.mem_of_getElem? hq)
  simp only [fndD] at hrow
  have hwi:=zq (i:=i) (by omega)
  have hC0:C.2=0:=by
   refine Classical.byContradiction (fun h9=>?_)
   rw [hnil h9] at hlt
   exact absurd hlt (by simp)
  have hws:IntKind.i64.wrap (u.want - u.have_)=u.want - u.have_:=zh (by omega) (by omega)
  by_cases he:e=0
  ·have hb:(e==0)=true:=by simpa using he
   have ht:=h2 hC0 he
   rw [hdr,addsK] at ht
   have hpn:=hp.radd u.loc (u.want - u.have_)
   obtain ⟨A,hA⟩:∃A,A=radd x.disk p u.loc (u.want - u.have_):=⟨_,rfl⟩
   rw [← hA] at ht hpn
   (have tk:=za zF <| za zbr <| za zb8 <| zb Tryz.prog;have fx:=(⟨hcmp,hrow,hws,hA.symm,hb⟩:_∧_∧_∧_∧_);repeat' (first|(refine hK _ ?_;clear hK K)|refine wa fun K hK=>?_|refine wb ?_|refine wc ?_ ?_|exact we|refine fun (hc:_=(_:Bool))=>?_|clear hK K))
   exact ⟨⟨(i+1,A.1,A.2),by omega,hpn,fun h9=>absurd hC0 h9,fun _ (h9:A.2=0)=>by rw [ht,if_neg (by simpa using h9)],fun _ (h9:A.2≠0)=>by rw [ht,if_pos h9]⟩,lew,by simp;omega⟩
  ·have hb:(e==0)=false:=by simpa using he
   (have tk:=za zF <| za zbr <| za zb8 <| zb Tryz.prog;have fx:=(⟨hcmp,hrow,hb⟩:_∧_∧_);repeat' (first|(refine hK _ ?_;clear hK K)|refine wa fun K hK=>?_|refine wb ?_|refine wc ?_ ?_|exact we|refine fun (hc:_=(_:Bool))=>?_|clear hK K))
   exact ⟨⟨(i+1,p,e),by omega,hp,h1,fun _ h9=>absurd h9 he,h3⟩,lew,by simp;omega⟩
 ·have hok:=h.ok
  have hs0:=h.seq0
  have hs1:=h.seq1
  have hdf:=h.disk
  have hpf:=hp.p
  by_cases he:e=0
  ·have hb:(e !=0)=false:=by simpa using he
   have hC0:C.2=0:=by
    refine Classical.byContradiction (fun h9=>?_)
    exact h9 (by rw [← h1 h9];exact he)
   have ht:=h2 hC0 he
   rw [hend,List.drop_length] at ht
   rw [if_neg (by simpa using hC0),ht,if_neg (by simp [addsK])] at ham
   (have tk:=za zF <| za zbr <| za zb8 <| zb Tryz.prog;have fx:=(⟨hcmp,hb⟩:_∧_);repeat' (first|(refine hK _ ?_;clear hK K)|refine wa fun K hK=>?_|refine wb ?_|refine wc ?_ ?_|exact we|refine fun (hc:_=(_:Bool))=>?_|clear hK K))
   all_goals first|omega|skip
   rw [ham]
   rfl
  ·have hb:(e !=0)=true:=by simpa using he
   have ham2:amend x=(x,e):=by
    rw [ham]
    by_cases h9:C.2=0
    ·rw [if_neg (by simpa using h9),h3 h9 he,if_pos he]
    ·rw [if_pos h9,h1 h9]
   (have tk:=za zF <| za zbr <| za zb8 <| zb Tryz.prog;have fx:=(⟨hcmp,hb⟩:_∧_);repeat' (first|(refine hK _ ?_;clear hK K)|refine wa fun K hK=>?_|refine wb ?_|refine wc ?_ ?_|exact we|refine fun (hc:_=(_:Bool))=>?_|clear hK K))
   rw [ham2]
@[go_sem] noncomputable def zcp:Ent Tryz.prog 15:= .m1 zci zmE
open Go Go.Proofs
theorem zmF (d:Disk) (p:Plan) (l1 by_:Int) (h:DP d p):AC 86 [diskA d,planA p,.d (.int .i64 l1),.d (.int .i64 by_)] (.tup [planA (share d p l1 by_).1,.d (.int .i64 (share d p l1 by_).2)]):=by
 refine fbod Tryz.func86 Tryz.ntmps86 (fun base=>?_)
 have hrl:=ze9 (d:=d) (p:=p) (t:=l1)
 obtain ⟨W,hW⟩:∃W,W=reach d p l1:=⟨_,rfl⟩
 rw [← hW] at hrl
 have hsh:share d p l1 by_=if W.2≠0 then (p,W.2) else if (shareK d by_ W.1 p).2≠0 then (p,(shareK d by_ W.1 p).2) else shareK d by_ W.1 p:=by rw [share,hW]
 (have tk:=za zS <| za zao <| zb Tryz.prog;have fx:=hW.symm;repeat' (first|(refine hK _ ?_;clear hK K)|refine wa fun K hK=>?_|refine wb ?_|refine wc ?_ ?_|exact we|refine fun (hc:_=(_:Bool))=>?_|clear hK K))
 ·rw [hsh,if_pos (bneP hc)]
 rw [if_neg (bneN hc)] at hsh
 refine zn (fun q: { q:Nat×Plan // q.1≤W.1.length∧DP d q.2∧shareK d by_ W.1 p=shareK d by_ (W.1.drop q.1) q.2 } =>⟨[(3,true,.d (.int .i64 by_)),(4,true,.vp 0 0),(5,true,.vp 1 0),(8,true,.vp 2 0),(10,true,.d (.sl 1 (W.1.map intD))),(12,true,.vp 3 0),(13,true,.d (.int .i64 q.1.1))],[(3,(.var [.d (.sl 1 (q.1.2.targets.map intD)),.d (.sl 1 (q.1.2.texts.map strD))])),(2,.var [.nils 1,.nils 1]),(1,(.var [.d (.sl 1 (p.targets.map intD)),.d (.sl 1 (p.texts.map strD))])),(0,(.var [.d (.str d.data),.d (.sl 2 (d.cache.map putD)),.d (.int .i64 d.fuse),.d (.bool d.off),.d (.sl 1 (d.bad.map intD))]))],some []⟩) (fun q=>W.1.length - q.1.1) ⟨(0,p),Nat.zero_le _,h,rfl⟩ le1 (fun q=>?_)
 obtain ⟨⟨i,q⟩,hi,hp,ht⟩:=q
 simp only at hi hp ht ⊢
 rcases zG intD W.1 i hi with ⟨u,hq,hlt,hcmp,hrow,hdr,htk⟩|⟨hend,hcmp⟩
 ·simp only [intD] at hrow
  have hwi:=zq (i:=i) (by omega)
  rw [hdr,shareK] at ht
  have hpn:=hp.radd u by_
  obtain ⟨A,hA⟩:∃A,A=radd d q u by_:=⟨_,rfl⟩
  rw [← hA] at ht hpn
  (have tk:=za zS <| za zao <| zb Tryz.prog;have fx:=(⟨hcmp,hrow,hA.symm⟩:_∧_∧_);repeat' (first|(refine hK _ ?_;clear hK K)|refine va fun K hK=>?_|refine vb ?_|refine wc ?_ ?_|exact we|refine fun (hc:_=(_:Bool))=>?_|clear hK K))
  ·rw [if_pos (bneP hc)] at ht
   rw [hsh,ht,if_pos (bneP hc)]
  ·rw [if_neg (bneN hc)] at ht
   exact ⟨⟨(i+1,A.1),by omega,hpn,ht⟩,lew,by simp;omega⟩
 ·rw [hend,List.drop_length] at ht
  rw [ht,if_neg (by simp [shareK])] at hsh
  (have tk:=za zS <| za zao <| zb Tryz.prog;have fx:=hcmp;repeat' (first|(refine hK _ ?_;clear hK K)|refine wa fun K hK=>?_|refine wb ?_|refine wc ?_ ?_|exact we|refine fun (hc:_=(_:Bool))=>?_|clear hK K))
  rw [hsh]
  rfl
@[go_sem] noncomputable def za8:Ent Tryz.prog 86:= .m4 zp zt (intT .i64) (intT .i64) zmF
open Go Go.Proofs
theorem zsR {d:Disk} {p:Plan} {t i:Int} (hk:(eget d p t i).1.kind≠1):(eget d p t i).1.loc=0:=by
 by_cases he:(eget d p t i).2=0
 ·have:=(zg6 he).1
  unfold entOk at this
  rw [if_neg hk] at this
  simp only [Bool.and_eq_true,beq_iff_eq] at this
  exact this.2
 ·unfold eget at he ⊢
  split
  ·rfl
  rename_i h1
  rw [if_neg h1] at he
  split
  ·rfl
  rename_i h2
  rw [if_neg h2] at he
  unfold entT at he ⊢
  split
  ·rfl
  ·rename_i h3
   rw [if_neg h3] at he
   exact absurd rfl he
theorem zre {d:Disk} {p:Plan} {l1 g:Int} (hk:(elook d p l1 g).1.kind≠1):(elook d p l1 g).1.loc=0:=by
 unfold elook at hk ⊢
 repeat' split
 all_goals first|rfl|skip
 rename_i h1 h2 h3 h4
 rw [if_neg h1,if_neg h2,if_neg h3,if_neg h4] at hk
 exact zsR hk
theorem zoZ (x:Img) (guest:Int) (isH:Bool) (h:ImgF x):AC 44 [imgA x,.d (.int .i64 guest),.d (.bool isH)] (.tup [imgA (wipe x guest isH).1,.d (.int .i64 (wipe x guest isH).2)]):=by
 refine fbod Tryz.func44 Tryz.ntmps44 (fun base=>?_)
 obtain ⟨Z,hZ⟩:∃Z,Z=wipe x guest isH:=⟨_,rfl⟩
 have hZ2:=hZ
 rw [wipe] at hZ2
 have hio:=h.ok
 have him:=h.maps
 have hX:=h.mark guest
 obtain ⟨X,hXe⟩:∃X,X=cmark x guest:=⟨_,rfl⟩
 rw [← hXe] at hX hZ2
 have hdp:DP X.disk p0:=⟨hX.disk,zb4⟩
 have hho:=hX.host
 have hgu:=hX.guest
 have hxo:=hX.ok
 have hxd:=hX.disk
 have hq0:=hX.seq0
 have hq1:=hX.seq1
 obtain ⟨R,hR⟩:∃R,R=zy X.disk p0:=⟨_,rfl⟩
 obtain ⟨Y,hY⟩:∃Y,Y=elook X.disk p0 R.1.l1 guest:=⟨_,rfl⟩
 obtain ⟨P,hP⟩:∃P,P=ppoint X.disk p0 X.geom guest ⟨if isH then 0 else 2,0⟩:=⟨_,rfl⟩
 have hpf:pfit P.1=true:=by rw [hP];exact (hdp.ppoint _ _ _).p
 obtain ⟨D,hD⟩:∃D,D=cdone X P.1:=⟨_,rfl⟩
 rw [wipe2,← hR,← hY,← hP,← hD] at hZ2
 by_cases hr:guest<0∨x.geom.guest≤guest
 ·have hdec:(decide (guest<0)||decide (x.geom.guest≤guest))=true:=by simpa using hr
  rw [if_pos hr] at hZ2
  (have tk:=za zc1 <| za z8 <| za zb5 <| za zcn <| za zaf <| zb Tryz.prog;have fx:=(⟨hdec,hZ.symm⟩:_∧_);repeat' (first|(refine hK _ ?_;clear hK K)|refine wa fun K hK=>?_|refine wb ?_|refine wc ?_ ?_|exact we|refine fun (hc:_=(_:Bool))=>?_|clear hK K))
  ·rw [hZ2,if_pos hc]
  ·rw [hZ2,if_neg (by rw [hc];decide)]
 have hdec:(decide (guest<0)||decide (x.geom.guest≤guest))=false:=by simpa using hr
 rw [if_neg hr] at hZ2
 (have tk:=za zc1 <| za z8 <| za zb5 <| za zcn <| za zaf <| zb Tryz.prog;have fx:=(⟨hdec,hZ.symm⟩:_∧_);repeat' ((fail_if_success refine hds 5 (by rfl) ?_);first|(refine hK _ ?_;clear hK K)|refine wa fun K hK=>?_|refine wb ?_|refine wc ?_ ?_|exact we|refine fun (hc:_=(_:Bool))=>?_|clear hK K))
 ·rw [hZ2,if_pos hc]
 rw [if_neg (by rw [hc];decide)] at hZ2
 clear hc
 have hYl:∀k,k≠1→(Y.1.kind==k&&Y.1.loc==0)=(Y.1.kind==k):=by
  intro k hk
  cases hb:Y.1.kind==k with
  |false=>rfl
  |true=>
   have hb2:Y.1.kind=k:=by simpa using hb
   have:Y.1.loc=0:=by rw [hY];exact zre (by rw [← hY,hb2];exact hk)
   rw [this];rfl
 cases isH with
 |true=>
  simp only [if_true] at hP hZ2
  have hY0:=hYl 0 (by decide)
  (have tk:=za zc1 <| za z8 <| za zb5 <| za zcn <| za zaf <| zb Tryz.prog;have fx:=(⟨hXe.symm,hR.symm,hY.symm,hP.symm,hD.symm,hZ.symm,hY0⟩:_∧_∧_∧_∧_∧_∧_);repeat' (first|(refine hK _ ?_;clear hK K)|refine wa fun K hK=>?_|refine wb ?_|refine wc ?_ ?_|exact we|refine fun (hc:_=(_:Bool))=>?_|clear hK K))
  all_goals rw [hZ2]
  all_goals (refine (show (_:AV)=_ from ?_));(repeat (first|(rewrite [if_pos];rotate_left;(first|exact bneP (by assumption)|exact beqP (by assumption)|exact of_decide_eq_true (by assumption)|assumption))|(rewrite [if_neg];rotate_left;(first|exact bneN (by assumption)|exact beqN (by assumption)|exact of_decide_eq_false (by assumption)|assumption))))
  all_goals rfl
 |false=>
  simp only [Bool.false_eq_true,if_false] at hP hZ2
  have hY0:=hYl 2 (by decide)
  (have tk:=za zc1 <| za z8 <| za zb5 <| za zcn <| za zaf <| zb Tryz.prog;have fx:=(⟨hXe.symm,hR.symm,hY.symm,hP.symm,hD.symm,hZ.symm,hY0⟩:_∧_∧_∧_∧_∧_∧_);repeat' (first|(refine hK _ ?_;clear hK K)|refine wa fun K hK=>?_|refine wb ?_|refine wc ?_ ?_|exact we|refine fun (hc:_=(_:Bool))=>?_|clear hK K))
  all_goals rw [hZ2]
  all_goals (refine (show (_:AV)=_ from ?_));(repeat (first|(rewrite [if_pos];rotate_left;(first|exact bneP (by assumption)|exact beqP (by assumption)|exact of_decide_eq_true (by assumption)|assumption))|(rewrite [if_neg];rotate_left;(first|exact bneN (by assumption)|exact beqN (by assumption)|exact of_decide_eq_false (by assumption)|assumption))))
  all_goals rfl
@[go_sem] noncomputable def zli:Ent Tryz.prog 44:= .m3 zci (intT .i64) boolT zoZ
open Go Go.Proofs
def sbeg (d:Disk):Root×List Snp×Int:=((zy d p0).1,if (zy d p0).2≠0 then ([],(zy d p0).2) else snaps d p0)
theorem zmG (x:Img) (h:ImgF x):AC 71 [imgA x] (.tup [rootA (sbeg x.disk).1,.d (.sl 3 ((sbeg x.disk).2.1.map snpD)),.d (.int .i64 (sbeg x.disk).2.2)]):=by
 refine fbod Tryz.func71 Tryz.ntmps71 (fun base=>?_)
 have hdp:DP x.disk p0:=⟨h.disk,zb4⟩
 obtain ⟨R,hR⟩:∃R,R=zy x.disk p0:=⟨_,rfl⟩
 obtain ⟨L,hL⟩:∃L,L=snaps x.disk p0:=⟨_,rfl⟩
 have hs:sbeg x.disk=(R.1,if R.2≠0 then ([],R.2) else L):=by rw [sbeg,hR,hL]
 (have tk:=za z8 <| za zco <| zb Tryz.prog;have fx:=(⟨hR.symm,hL.symm⟩:_∧_);repeat' (first|(refine hK _ ?_;clear hK K)|refine wa fun K hK=>?_|refine wb ?_|refine wc ?_ ?_|refine fun (nb:Bool) (hnb:nb=true→_)=>?_|exact we|refine fun (hc:_=(_:Bool))=>?_|clear hK K))
 ·rw [hs,if_pos (bneP hc)]
  rfl
 ·rw [hs,if_neg (bneN hc)]
@[go_sem] noncomputable def za9:Ent Tryz.prog 71:= .m1 zci zmG
theorem zo0 {l:List Snp} {P:Snp→Bool} {i:Nat} {s:Snp} (hq:l[i]?=some s):idxP P (l.take (i+1)) 0=if idxP P (l.take i) 0<0 then (if P s then (i:Int) else -1) else idxP P (l.take i) 0:=by
 have hi:i<l.length:=(List.getElem?_eq_some_iff.1 hq).1
 have hg:∀ (m:List Snp) (n:Nat),idxP P (m++ [s]) n=if idxP P m n<0 then (if P s then ((n+m.length:Nat):Int) else -1) else idxP P m n:=by
  intro m
  induction m with
  |nil=>intro n;simp [idxP]
  | cons y m ih=>
   intro n
   rw [List.cons_append]
   by_cases hy:P y=true
   ·have e1:idxP P (y::(m++ [s])) n=n:=by simp [idxP,hy]
    have e2:idxP P (y::m) n=n:=by simp [idxP,hy]
    rw [e1,e2,if_neg (by omega)]
   ·have e1:idxP P (y::(m++ [s])) n=idxP P (m++ [s]) (n+1):=by simp [idxP,hy]
    have e2:idxP P (y::m) n=idxP P m (n+1):=by simp [idxP,hy]
    rw [e1,e2,ih (n+1),List.length_cons,show n+1+m.length=n+(m.length+1) by omega]
 rw [zbm hq,hg,Nat.zero_add,List.length_take,Nat.min_eq_left (by omega)]
theorem zmH (d:Disk) (p:Plan):0≤(zy d p).1.l1∧(zy d p).1.l1≤65535∧0≤(zy d p).1.next∧(zy d p).1.next≤4294967295:=by
 unfold zy
 split
 ·simp
 ·unfold rootT
  repeat' split
  all_goals first|decide|exact zel _
theorem zhn {p:Plan} {r:Root} (hp:pfit p=true):pfit (zcN p r).1=true:=by
 unfold zcN
 split
 ·exact hp
 ·exact zcV hp
def zgo (x:Img) (name:Txt) (R:Root) (L:List Snp):Img×Int×Int:=
 if zan name=false then (x,0,19) else if L.any (fun s=>s.id !=0&&s.name==name) then (x,0,20)
 else if idxP (fun s=>s.id==0) L 0<0 then (x,0,17) else if R.next=0∨R.next=4294967295 then (x,0,10)
 else zju x name R (idxP (fun s=>s.id==0) L 0) (rtake x.disk p0 x.geom)
theorem zmI (x:Img) (name:Txt):zeK x name=if x.broken then (x,0,24) else if (sbeg x.disk).2.2≠0 then (x,0,(sbeg x.disk).2.2) else zgo x name (sbeg x.disk).1 (sbeg x.disk).2.1:=by
 unfold zeK sbeg zgo
 by_cases h1:(zy x.disk p0).2=0
 ·simp only [h1,ne_eq,not_true_eq_false,if_false]
 ·simp only [h1,ne_eq,not_false_eq_true,if_true]
theorem zsS (d:Disk):(sbeg d).2.1.length≤8:=by
 unfold sbeg
 simp only
 split
 ·exact Nat.zero_le _
 ·exact ze4
theorem zlj (x:Img) (name:Txt) (hp:ImgF x∧name.length≤9223372036854775807):AC 29 [imgA x,.d (.str name)] (.tup [imgA (zeK x name).1,.d (.int .u32 (zeK x name).2.1),.d (.int .i64 (zeK x name).2.2)]):=by
 obtain ⟨h,hn⟩:=hp
 refine fbod Tryz.func29 Tryz.ntmps29 (fun base=>?_)
 have hdp:DP x.disk p0:=⟨h.disk,zb4⟩
 have hho:=h.host
 have hiok:=h.ok
 have hdok:=h.disk
 have hq0:=h.seq0
 have hq1:=h.seq1
 have hLl:=zsS x.disk
 have hRr:0≤(sbeg x.disk).1.next∧(sbeg x.disk).1.next≤4294967295:=(zmH x.disk p0).2.2
 obtain ⟨R,hR⟩:∃R,R=(sbeg x.disk).1:=⟨_,rfl⟩
 obtain ⟨L,hL⟩:∃L,L=(sbeg x.disk).2.1:=⟨_,rfl⟩
 obtain ⟨E,hE⟩:∃E,E=(sbeg x.disk).2.2:=⟨_,rfl⟩
 obtain ⟨Z,hZ⟩:∃Z,Z=zeK x name:=⟨_,rfl⟩
 have hZ2:=hZ
 rw [zmI,← hR,← hL,← hE] at hZ2
 rw [← hL] at hLl
 rw [← hR] at hRr
 (have tk:=za za9 <| za zC <| za zaX <| za zaG <| za za8 <| za zaF <| za zbp <| za zaf <| zb Tryz.prog;have fx:=(⟨hR.symm,hL.symm,hE.symm,hZ.symm⟩:_∧_∧_∧_);repeat' (first|(refine hK _ ?_;clear hK K)|refine wa fun K hK=>?_|refine wb ?_|refine wc ?_ ?_|exact we|refine fun (hc:_=(_:Bool))=>?_|clear hK K))
 ·rw [hZ2,if_pos hc]
 ·rename_i h0
  rw [hZ2,if_neg (by rw [h0];decide),if_pos (bneP hc)]
 ·rename_i h0 h1
  rw [hZ2,if_neg (by rw [h0];decide),if_neg (bneN h1),zgo,if_pos (by simpa using hc)]
 rename_i h1 h2
 rw [if_neg (by rw [h1];decide),if_neg (bneN h2),zgo,if_neg (by rw [Bool.not_eq_false'] at hc;rw [hc];decide)] at hZ2
 obtain ⟨I,hI⟩:∃I:Int,I=idxP (fun s=>s.id==0) L 0:=⟨_,rfl⟩
 rw [← hI] at hZ2
 refine zn (fun q: { i:Nat // i≤L.length∧L.any (fun s=>s.id !=0&&s.name==name)=(L.drop i).any (fun s=>s.id !=0&&s.name==name) } =>⟨[(1,true,.d (.str name)),(2,true,.vp 0 0),(4,true,.vp 1 0),(7,true,.vp 2 0),(8,true,.d (.sl 3 (L.map snpD))),(10,true,.d (.int .i64 (idxP (fun s=>s.id==0) (L.take q.1) 0))),(11,true,.d (.int .i64 q.1))],[(2,.var [.d (.int .i64 R.l1),.d (.int .u32 R.next)]),(1,.var img0),(0,.var (imgV x))],some []⟩) (fun q=>L.length - q.1) ⟨0,Nat.zero_le _,rfl⟩ (by simp only [AS.le,leT,leH,zc,AsgK,AV.le,AV.leL,AObj.le,inH,idsT,idsH,AV.ids,AV.idsL,AV.idsR,AObj.ids,lk,hget,go_sem,aeq,aeq.aeqF,simprocAttr,idxP]<;>and_intros<;>rfl) (fun q=>?_)
 obtain ⟨i,hi,ht⟩:=q
 simp only at hi ht ⊢
 rcases zG snpD L i hi with ⟨u,hq,hlt,hcmp,hrow,hdr,htk⟩|⟨hend,hcmp⟩
 ·simp only [snpD] at hrow
  have hwi:=zq (i:=i) (by omega)
  have hsn:=zo0 (P:=fun s=>s.id==0) hq
  rw [hdr,List.any_cons] at ht
  obtain ⟨k,hk⟩:∃k,k=idxP (fun s=>s.id==0) (L.take i) 0:=⟨_,rfl⟩
  rw [← hk] at hsn ⊢
  cases hb:(u.id !=0&&u.name==name) with
  |true=>
   rw [hb,Bool.true_or] at ht
   (have tk:=za za9 <| za zC <| za zaX <| za zaG <| za za8 <| za zaF <| za zbp <| za zaf <| zb Tryz.prog;have fx:=(⟨hcmp,hrow,hb,hZ.symm⟩:_∧_∧_∧_);repeat' (first|(refine hK _ ?_;clear hK K)|refine wa fun K hK=>?_|refine wb ?_|refine wc ?_ ?_|exact we|refine fun (hc:_=(_:Bool))=>?_|clear hK K))
   rw [hZ2,if_pos ht]
  | false=>
   rw [hb,Bool.false_or] at ht
   cases hb2:(u.id==0&&decide (k<0)) with
   | true=>
    have hk2:idxP (fun s=>s.id==0) (L.take (i+1)) 0=i:=by
     rw [Bool.and_eq_true,decide_eq_true_eq] at hb2
     rw [hsn,if_pos hb2.2,if_pos hb2.1]
    (have tk:=za za9 <| za zC <| za zaX <| za zaG <| za za8 <| za zaF <| za zbp <| za zaf <| zb Tryz.prog;have fx:=(⟨hcmp,hrow,hb,hb2⟩:_∧_∧_∧_);repeat' (first|(refine hK _ ?_;clear hK K)|refine wa fun K hK=>?_|refine wb ?_|refine wc ?_ ?_|exact we|refine fun (hc:_=(_:Bool))=>?_|clear hK K))
    exact ⟨⟨i+1,by omega,ht⟩,by simp only [hk2];simp only [AS.le,leT,leH,zc,AsgK,AV.le,AV.leL,AObj.le,inH,idsT,idsH,AV.ids,AV.idsL,AV.idsR,AObj.ids,lk,hget,go_sem,aeq,aeq.aeqF,simprocAttr,hwi],by simp;omega⟩
   | false=>
    have hk2:idxP (fun s=>s.id==0) (L.take (i+1)) 0=k:=by
     rw [hsn]
     by_cases hk0:k<0
     ·rw [if_pos hk0,if_neg (by rw [decide_eq_true hk0,Bool.and_true] at hb2;rw [hb2];decide)]
      rcases ze0 (fun s:Snp=>s.id==0) (L.take i) 0 with hh|hh<;>omega
     ·rw [if_neg hk0]
    (have tk:=za za9 <| za zC <| za zaX <| za zaG <| za za8 <| za zaF <| za zbp <| za zaf <| zb Tryz.prog;have fx:=(⟨hcmp,hrow,hb,hb2⟩:_∧_∧_∧_);repeat' (first|(refine hK _ ?_;clear hK K)|refine wa fun K hK=>?_|refine wb ?_|refine wc ?_ ?_|exact we|refine fun (hc:_=(_:Bool))=>?_|clear hK K))
    exact ⟨⟨i+1,by omega,ht⟩,by simp only [hk2];simp only [AS.le,leT,leH,zc,AsgK,AV.le,AV.leL,AObj.le,inH,idsT,idsH,AV.ids,AV.idsL,AV.idsR,AObj.ids,lk,hget,go_sem,aeq,aeq.aeqF,simprocAttr,hwi],by simp;omega⟩
 rw [hend,List.drop_length] at ht
 rw [if_neg (by rw [ht];simp)] at hZ2
 rw [hend] at hcmp
 rw [hend,List.take_length,← hI]
 clear hI ht hi hend
 obtain ⟨T,hT⟩:∃T,T=rtake x.disk p0 x.geom:=⟨_,rfl⟩
 have hd1:DP x.disk T.1:=by rw [hT];exact hdp.rtake _
 rw [← hT,zju] at hZ2
 obtain ⟨C,hC⟩:∃C,C=ecopy x.disk T.1 R.l1 T.2.1:=⟨_,rfl⟩
 have hd2:DP x.disk C.1:=by rw [hC];exact hd1.ecopy _ _
 rw [← hC,znD] at hZ2
 obtain ⟨S,hS⟩:∃S,S=share x.disk C.1 R.l1 1:=⟨_,rfl⟩
 have hd3:DP x.disk S.1:=by rw [hS];exact hd2.share _ _
 rw [← hS,znC] at hZ2
 obtain ⟨P,hP⟩:∃P,P=setsnap x.disk S.1 I ⟨R.next,T.2.1,name⟩:=⟨_,rfl⟩
 have hd4:DP x.disk P.1:=by rw [hP];exact hd3.setsnap _ _
 rw [← hP,znB] at hZ2
 obtain ⟨Q,hQ⟩:∃Q,Q=zcN P.1 ⟨R.l1,R.next+1⟩:=⟨_,rfl⟩
 have hd5:pfit Q.1=true:=by rw [hQ];exact zhn hd4.p
 have hd4p:=hd4.p
 rw [← hQ,znA] at hZ2
 obtain ⟨D,hD⟩:∃D,D=cdone x Q.1:=⟨_,rfl⟩
 rw [← hD] at hZ2
 (have tk:=za za9 <| za zC <| za zaX <| za zaG <| za za8 <| za zaF <| za zbp <| za zaf <| zb Tryz.prog;have fx:=(⟨hcmp,hZ.symm⟩:_∧_);repeat' ((fail_if_success refine hds 20 (by rfl) ?_);first|(refine hK _ ?_;clear hK K)|refine wa fun K hK=>?_|refine wb ?_|refine wc ?_ ?_|exact we|refine fun (hc:_=(_:Bool))=>?_|clear hK K))
 ·rw [hZ2,if_pos (of_decide_eq_true hc)]
 ·rename_i h3
  rw [hZ2,if_neg (of_decide_eq_false h3),if_pos (by simpa using hc)]
 rename_i h3
 have hnx:R.next≠0∧R.next≠4294967295:=by simpa using hc
 have hwn:IntKind.u32.wrap (R.next+1)=R.next+1:=ze3 (by omega) (by omega)
 rw [if_neg (of_decide_eq_false h3),if_neg (by omega)] at hZ2
 (have tk:=za za9 <| za zC <| za zaX <| za zaG <| za za8 <| za zaF <| za zbp <| za zaf <| zb Tryz.prog;have fx:=(⟨hT.symm,hC.symm,hS.symm,hP.symm,hQ.symm,hD.symm,hZ.symm,hwn⟩:_∧_∧_∧_∧_∧_∧_∧_);repeat' (first|(refine hK _ ?_;clear hK K)|refine wa fun K hK=>?_|refine wb ?_|refine wc ?_ ?_|exact we|refine fun (hc:_=(_:Bool))=>?_|clear hK K))
 all_goals first|omega|skip
 all_goals rw [hZ2]
 all_goals (refine (show (_:AV)=_ from ?_));(repeat (first|(rewrite [if_pos];rotate_left;(first|exact bneP (by assumption)|exact beqP (by assumption)|exact of_decide_eq_true (by assumption)|assumption))|(rewrite [if_neg];rotate_left;(first|exact bneN (by assumption)|exact beqN (by assumption)|exact of_decide_eq_false (by assumption)|assumption))))
 all_goals rfl
@[go_sem] noncomputable def zhL:Ent Tryz.prog 29:= .m2 zci strT zlj
open Go Go.Proofs
def zcP (g m:Int):Txt:= [67,79,70,49]++putN g.toNat 2++putN m.toNat 2
def zfc (g m:Int):Txt:=padR (zcP g m++zex (sumOf 0 (zcP g m)))
theorem zjv (g m:Int):(zcP g m).length=8:=by
 rw [zcP,List.length_append,List.length_append,zB,zB];rfl
theorem zo1 (g:Int) (m:Int) (h:zdm g m=true):ACall Tryz.prog 112 0 [.agg [.d (.int .i64 g),.d (.int .i64 m)]] [] (fun r _=>r= .tup [.d (.str (zfc g m)),.d (.int .i64 0)]):=by
 refine fbod Tryz.func112 Tryz.ntmps112 (fun base=>?_)
 have hg:=geo_iff.1 h
 have hw1:IntKind.u64.wrap g=g:=zR (by omega) (by omega)
 have hw2:IntKind.u64.wrap m=m:=zR (by omega) (by omega)
 have hl1:=zB g.toNat 2
 have hl2:=zB m.toNat 2
 have hhd:(67:UInt8)::79::70::49::putN g.toNat 2++putN m.toNat 2=zcP g m:=rfl
 have hhl:=zjv g m
 have hs:=zeH 0 (zcP g m) (by omega) (by omega)
 have hbl:=zcx (sumOf 0 (zcP g m))
 (have tk:=za zcs <| za z7 <| za zaN <| za zac <| za zdl <| zb Tryz.prog);repeat' (first|((first|(refine ga ?_;intro K hK)|refine gb ?_);simp only [go_sem,aeq,aeq.aeqF,simprocAttr,h,hw1,hw2,zg4,zin,List.length_cons,List.length_nil,hl1,hl2,hhd,hhl,hbl,List.length_append,Tryz.results112])|refine zj (fun K hK=>?_)|refine sc ?_|refine zi rfl (fun hc=>?_) (fun hc=>?_)|(refine hK _ ?_;clear hK K)|with_reducible refine And.intro ?_ ?_|(refine (show zbn _ _=true from ?_);kernel_rfl)|omega|assumption|clear hK K)
 rfl
@[go_sem] noncomputable def zlk:Ent Tryz.prog 112:= .ofL (consL (aggT (consL (intT .i64) (consL (intT .i64) nilL)) (fun p=>p) (fun p=>p) (fun _=>rfl)) nilL) (fun ((g,m,_),_)=>zdm g m=true) (fun ((g,m,_),_)=> .tup [.d (.str (zfc g m)),.d (.int .i64 0)]) (fun ((g,m,_),_) hp=>⟨rfl,zo1 g m hp⟩)
def csmall:Img:=⟨(dflush (play (dnew 112).1 (radd (dnew 112).1 (zcN (pset p0 0 (zfc 20 8)).1 ⟨0,1⟩).1 0 1).1).1).1,⟨20,8⟩,⟨1,0⟩,[],false⟩
theorem zrf:ImgF csmall:=by
 have h:DiskF (dnew 112).1:=⟨by constructor<;>simp [dnew],rfl⟩
 have hp:=(h.play (radd (dnew 112).1 (zcN (pset p0 0 (zfc 20 8)).1 ⟨0,1⟩).1 0 1).1).flush
 exact ⟨⟨hp.ok,by decide,(fun m hm=>by cases hm),(fun m hm=>by cases hm)⟩,hp,by decide,by decide,by decide,by decide,by decide⟩
theorem zmJ:ACall Tryz.prog 41 0 [] [] (fun r _=>r=imgA csmall):=by
 have hd:DiskF (dnew 112).1:=⟨by constructor<;>simp [dnew],rfl⟩
 obtain ⟨c,hc⟩:∃c,c=csmall:=⟨_,rfl⟩
 rw [← hc]
 unfold csmall at hc
 obtain ⟨N,hN⟩:∃N,N=dnew 112:=⟨_,rfl⟩
 obtain ⟨S,hS⟩:∃S,S=pset p0 0 (zfc 20 8):=⟨_,rfl⟩
 have hp0:pfit S.1=true:=by rw [hS];exact zcV zb4
 obtain ⟨Q,hQ⟩:∃Q,Q=zcN S.1 ⟨0,1⟩:=⟨_,rfl⟩
 have hp1:pfit Q.1=true:=by rw [hQ];exact zhn hp0
 rw [← hN] at hd
 rw [← hN,← hS,← hQ] at hc
 have hdp:DP N.1 Q.1:=⟨hd,hp1⟩
 obtain ⟨A,hA⟩:∃A,A=radd N.1 Q.1 0 1:=⟨_,rfl⟩
 have hp2:pfit A.1=true:=by rw [hA];exact zjg hp1
 have hpo:=PlanOk.of hp2
 have hpl:=(zag hp2).1
 have hdo:=hd.ok
 obtain ⟨L,hL⟩:∃L,L=play N.1 A.1:=⟨_,rfl⟩
 have hLf:DiskF L.1:=by rw [hL];exact hd.play A.1
 have hLo:=hLf.ok
 have hLp:=hLf.puts
 obtain ⟨F,hF⟩:∃F,F=dflush L.1:=⟨_,rfl⟩
 rw [← hA,← hL,← hF] at hc
 have hgeo:zdm 20 8=true:=by decide
 have hpo0:=PlanOk.of zb4
 refine fbod Tryz.func41 Tryz.ntmps41 (fun base=>?_)
 (have tk:=za znT <| za zlk <| za zau <| za zbp <| za zao <| za zbR <| za zaW <| zb Tryz.prog;have fx:=(⟨hN.symm,hS.symm,hQ.symm,hA.symm,hL.symm,hF.symm,hc.symm⟩:_∧_∧_∧_∧_∧_∧_);repeat' (first|(refine hK _ ?_;clear hK K)|refine wa fun K hK=>?_|refine wb ?_|refine wc ?_ ?_|exact we|clear hK K))
 ·rfl
 ·decide
 ·rw [hc]
  rfl
@[go_sem] noncomputable def zjw:Ent Tryz.prog 41:= .ofL nilL (fun _=>True) (fun _=>imgA csmall) (fun _ hp=>⟨rfl,zmJ⟩)
open Go Go.Proofs
theorem zrk {x:Img} (h:ImgF x):ImgF (amend x).1:=by
 unfold amend
 repeat' split
 all_goals first|exact h|exact h.done _
theorem zmL {x:Img} {p:Plan} :(cdone x p).1.maps=x.maps∧(cdone x p).1.geom=x.geom:=by
 unfold cdone
 split<;>exact ⟨rfl,rfl⟩
theorem zmM {x:Img} :(amend x).1.maps=x.maps∧(amend x).1.geom=x.geom:=by
 unfold amend
 repeat' split
 all_goals first|exact ⟨rfl,rfl⟩|exact zmL
def agood (x:Img):Bool:=decide ((x.disk.cache.length:Int)≤300)&&decide ((x.maps.length:Int)≤2)&&ifit x
theorem zrl {x:Img} (h:ImgOk x) (hg:agood x=true):ImgF x∧8≤x.geom.host:=by
 unfold agood ifit at hg
 simp only [Bool.and_eq_true,decide_eq_true_eq] at hg
 obtain ⟨⟨g1,g2⟩,⟨⟨⟨⟨g3,g4⟩,g5⟩,g6⟩,g7⟩,g8⟩:=hg
 rw [geo_iff] at g3
 unfold dfit at g4
 simp only [Bool.and_eq_true] at g4
 unfold jfit at g6
 simp only [Bool.and_eq_true,decide_eq_true_eq] at g6
 exact ⟨⟨h,⟨h.disk,g4.1.2⟩,by omega,by omega,by omega,by omega,by omega⟩,by omega⟩
theorem zsW (x:Img) (h:ImgOk x):AC 9 [imgA x] (.d (.bool (agood x))):=by
 refine fbod Tryz.func9 Tryz.ntmps9 (fun base=>?_)
 (have tk:=za zma <| zb Tryz.prog;repeat' (first|(refine hK _ ?_;clear hK K)|refine wa fun K hK=>?_|refine wb ?_|refine wc ?_ ?_|exact we|refine fun (hc:_=(_:Bool))=>?_|clear hK K))
 all_goals first|rfl|skip
@[go_sem] noncomputable def zbA:Ent Tryz.prog 9:= .m1 zci zsW
def aw18P:Plan×Int:=radd csmall.disk p0 5 1
def aw18X:Img:=(cdone csmall aw18P.1).1
def aw18Y:Img×Int:=amend aw18X
theorem zrm:((zK aw18X).2==0&&decide ((zK aw18X).1= [⟨5,0,1⟩])&&ziy aw18X&&aw18Y.2==0&&(zK aw18Y.1).2==0&&((zK aw18Y.1).1.length:Int)==0&&(zeK aw18Y.1 [97]).2.2==0&&(wipe aw18Y.1 1 true).2==0&&dfit aw18X.disk)=true:=by
 decide+kernel
theorem zrn:aw18X.geom.host=8∧aw18Y.1.geom.host=8:=by decide+kernel
theorem zro:ACall Tryz.prog 10 0 [] [] (fun r _=>r= .d (.bool true)):=by
 have hS:=zrf
 have hfin:=zrm
 have hhost:=zrn
 obtain ⟨S,hSe⟩:∃S,S=csmall:=⟨_,rfl⟩
 have e1:aw18P=radd S.disk p0 5 1:=by rw [hSe];rfl
 obtain ⟨Pp,hPe⟩:∃P,P=aw18P:=⟨_,rfl⟩
 have e2:aw18X=(cdone S Pp.1).1:=by rw [hSe,hPe];rfl
 obtain ⟨X,hXe⟩:∃X,X=aw18X:=⟨_,rfl⟩
 have e3:aw18Y=amend X:=by rw [hXe];rfl
 obtain ⟨Y,hYe⟩:∃Y,Y=aw18Y:=⟨_,rfl⟩
 rw [← hSe] at hS
 rw [← hPe] at e1
 rw [← hXe] at e2
 rw [← hYe] at e3
 rw [← hXe,← hYe] at hfin hhost
 have hX:ImgF X:=by rw [e2];exact hS.done _
 have hY:ImgF Y.1:=by rw [e3];exact zrk hX
 have hdp:DP S.disk p0:=⟨hS.disk,zb4⟩
 have hpf:pfit Pp.1=true:=by rw [e1];exact zjg zb4
 have hr18:(slT 3 fndD zc2).un (.d (.sl 3 [[.int .i64 5,.int .i64 0,.int .i64 1]]))=some [⟨5,0,1⟩]:=zpz 3 fndD zc2 [⟨5,0,1⟩]
 have hr19:(slT 3 fndD zc2).un (.d (.sl 3 [fndD ⟨5,0,1⟩]))=some [⟨5,0,1⟩]:=zpz 3 fndD zc2 [⟨5,0,1⟩]
 obtain ⟨hh1,hh2⟩:=hhost
 have hh1':0≤X.geom.host:=by omega
 have hh2':0≤Y.1.geom.host:=by omega
 have hSo:=hS.ok
 have hSd:=hS.disk
 have hs0:=hS.seq0
 have hs1:=hS.seq1
 have hXd:=hX.disk.ok
 have hcl:=zep hX
 simp only [Bool.and_eq_true,beq_iff_eq,decide_eq_true_eq] at hfin
 obtain ⟨⟨⟨⟨⟨⟨⟨⟨f1,f2⟩,f3⟩,f4⟩,f5⟩,f6⟩,f7⟩,f8⟩,f9⟩:=hfin
 have f6':((zK Y.1).1.length:Int)=0:=f6
 refine fbod Tryz.func10 Tryz.ntmps10 (fun base=>?_)
 (have tk:=za zjw <| za zao <| za zaf <| za zF <| za zcp <| za zhL <| za zli <| za zmx <| za zc7 <| za zdk <| zb Tryz.prog);repeat' (first|((first|(refine ga ?_;intro K hK)|refine gb ?_);simp only [go_sem,aeq,aeq.aeqF,simprocAttr,← hSe,hr18,hr19,eq_self,← e1,← e2,← e3,f1,f2,f3,f4,f5,f6',f7,f8,f9,Tryz.results10])|refine zj (fun K hK=>?_)|(refine hK _ ?_;clear hK K)|with_reducible refine And.intro ?_ ?_|omega|assumption|refine fun (hg:(_:Bool)=(_:Bool))=>?_|clear hK K)
@[go_sem] noncomputable def zaZ:Ent Tryz.prog 10:= .ofL nilL (fun _=>True) (fun _=> .d (.bool true)) (fun _ hp=>⟨rfl,zro⟩)
theorem zhM (x:Img) (guest:Int) (h:ImgOk x):ACall Tryz.prog 4 0 [imgA x,.d (.int .i64 guest)] [] (fun r _=>r= .d (.bool true)):=by
 refine fbod Tryz.func4 Tryz.ntmps4 (fun base=>?_)
 cases hg:agood x with
 |false=>(have tk:=za zbA <| za zaZ <| za zcp <| za zF <| za zc7 <| za z8 <| za zd5 <| zb Tryz.prog;have fx:=hg;repeat' (first|(refine hK _ ?_;clear hK K)|refine wa fun K hK=>?_|refine wb ?_|refine wc ?_ ?_|exact we|refine fun (hc:_=(_:Bool))=>?_|clear hK K))
 |true=>
 obtain ⟨hF,hh⟩:=zrl h hg
 have hh0:0≤x.geom.host:=by omega
 have hM:=zrk hF
 have hMd:=hM.disk
 have hxd:=hF.disk
 have hdp:DP x.disk p0:=⟨hF.disk,zb4⟩
 have hk:=zmM (x:=x)
 have hmh:0≤(amend x).1.geom.host:=by rw [hk.2];exact hh0
 have hlaw:=zqX hF hh0
 obtain ⟨M,hMe⟩:∃M,M=amend x:=⟨_,rfl⟩
 rw [← hMe] at hM hMd hk hmh hlaw
 by_cases he:M.2=0
 ·obtain ⟨c1,c2,c3,c4⟩:=hlaw he
  have hb:(M.2 !=0)=false:=by simpa using he
  have hrd:=fun l g=>(c4.read (l1:=l) (g:=g)).symm
  have hwh:ziy M.1=true:=by rw [ziy,c1,c2];rfl
  have hl0:((([]:List Fnd).length:Nat):Int)=0:=rfl
  (have tk:=za zbA <| za zaZ <| za zcp <| za zF <| za zc7 <| za z8 <| za zd5 <| zb Tryz.prog;have fx:=(⟨hg,hMe.symm,hb,c1,c2,c3,hrd,hwh,hl0⟩:_∧_∧_∧_∧_∧_∧_∧_∧_);repeat' (first|(refine hK _ ?_;clear hK K)|refine va fun K hK=>?_|refine vb ?_|refine wc ?_ ?_|exact we|refine fun (hc:_=(_:Bool))=>?_|clear hK K))
  all_goals omega
 ·have hb:(M.2 !=0)=true:=by simpa using he
  (have tk:=za zbA <| za zaZ <| za zcp <| za zF <| za zc7 <| za z8 <| za zd5 <| zb Tryz.prog;have fx:=(⟨hg,hMe.symm,hb,hk.1⟩:_∧_∧_∧_);repeat' (first|(refine hK _ ?_;clear hK K)|refine va fun K hK=>?_|refine vb ?_|refine wc ?_ ?_|exact we|refine fun (hc:_=(_:Bool))=>?_|clear hK K))
  all_goals omega
theorem zo2 {x:Img} (h:(zK x).2≠0):(zK x).1= []:=by
 unfold zK at h ⊢
 split
 ·rfl
 split
 ·rfl
 ·rename_i h1 h2
  rw [if_neg h1,if_neg h2] at h
  exact absurd rfl h
theorem zhN (x:Img) (h:ImgOk x):ACall Tryz.prog 5 0 [imgA x] [] (fun r _=>r= .d (.bool true)):=by
 refine fbod Tryz.func5 Tryz.ntmps5 (fun base=>?_)
 cases hg:agood x with
 |false=>(have tk:=za zbA <| za zaZ <| za zF <| za zbJ <| zb Tryz.prog;have fx:=hg;repeat' (first|(refine hK _ ?_;clear hK K)|refine wa fun K hK=>?_|refine wb ?_|refine wc ?_ ?_|exact we|refine fun (hc:_=(_:Bool))=>?_|clear hK K))
 |true=>
 obtain ⟨hF,hh⟩:=zrl h hg
 have hh0:0≤x.geom.host:=by omega
 have hcl:=zep hF
 by_cases hc0:(zK x).2=0
 ·have hac:(zK x).1=fnds 0 (zW x).1 (rall x.disk p0 x.geom.host).1∧(zW x).2=0:=by
   unfold zK at hc0 ⊢
   split at hc0
   ·rename_i h1;exact absurd hc0 h1
   rename_i h1
   split at hc0
   ·rename_i h2;exact absurd hc0 h2
   rename_i h2
   rw [if_neg h1,if_neg h2]
   exact ⟨rfl,by simpa using h1⟩
  obtain ⟨hC1,hC2⟩:=hac
  have hlen:=zeo hC2
  have hmem:=fun f=>zfa 0 (zW x).1 (rall x.disk p0 x.geom.host).1 f
  have hrise:=zfb 0 (zW x).1 (rall x.disk p0 x.geom.host).1
  rw [← hC1] at hmem hrise
  obtain ⟨C,hC⟩:∃C,C=zK x:=⟨_,rfl⟩
  obtain ⟨W,hW⟩:∃W,W=zW x:=⟨_,rfl⟩
  rw [← hC] at hmem hrise hcl hc0
  rw [← hW] at hmem hlen hC2
  have hb1:(C.2 !=0)=false:=by simpa using hc0
  have hb2:(W.2 !=0)=false:=by simpa using hC2
  have hlw:((W.1.length:Nat):Int)=x.geom.host:=by omega
  (have tk:=za zbA <| za zaZ <| za zF <| za zbJ <| zb Tryz.prog;have fx:=(⟨hg,hC.symm,hW.symm,hb1,hb2⟩:_∧_∧_∧_∧_);repeat' (first|(refine hK _ ?_;clear hK K)|refine wa fun K hK=>?_|refine wb ?_|refine wc ?_ ?_|exact we|refine fun (hc:_=(_:Bool))=>?_|clear hK K))
  refine zn (fun q: { q:Nat×Int // q.1≤C.1.length∧(∀f∈C.1.drop q.1,q.2<f.loc) } =>⟨[(1,true,.vp 0 0),(5,true,.d (.sl 1 (W.1.map intD))),(7,true,.d (.int .i64 q.1.2)),(36,true,.d (.sl 3 (C.1.map fndD))),(37,true,.d (.int .i64 C.1.length)),(38,true,.d (.int .i64 q.1.1))],[(0,.var (imgV x))],some []⟩) (fun q=>C.1.length - q.1.1) ⟨(0, -1),Nat.zero_le _,fun f hf=>by obtain ⟨i,h1,_⟩:=hmem f (by simpa using hf);show (-1:Int)<f.loc;omega⟩ le1 (fun q=>?_)
  obtain ⟨⟨i,last⟩,hi,hla⟩:=q
  simp only at hi hla ⊢
  rcases zG fndD C.1 i hi with ⟨u,hq,hlt,hcmp,hrow,hdr,htk⟩|⟨hend,hcmp⟩
  ·simp only [fndD] at hrow
   have hwi:=zq (i:=i) (by omega)
   obtain ⟨m,k1,k2,k3,k4⟩:=hmem u (List.mem_of_getElem? hq)
   have hl1:=hla u (by rw [hdr];simp)
   have hd1:decide (u.loc≤last)=false:=decide_eq_false (by omega)
   have hml:m<W.1.length:=(List.getElem?_eq_some_iff.1 k2).1
   have hul:u.loc=(m:Int):=by omega
   have hd2:decide ((W.1.length:Int)≤u.loc)=false:=decide_eq_false (by omega)
   have hrw:(W.1.map intD).getD u.loc.toNat []= [.int .i64 u.want]:=by rw [hul,Int.toNat_natCast,zcf (g:=intD) k2];rfl
   have hd3:(u.want !=u.want)=false:=by simp
   have hd4:(u.want==u.have_)=false:=by simpa using fun h9=>k4 h9.symm
   (have tk:=za zbA <| za zaZ <| za zF <| za zbJ <| zb Tryz.prog;have fx:=(⟨hcmp,hrow,hd1,hd2,hrw,hd3,hd4⟩:_∧_∧_∧_∧_∧_∧_);repeat' (first|(refine hK _ ?_;clear hK K)|refine va fun K hK=>?_|refine vb ?_|refine wc ?_ ?_|exact we|refine fun (hc:_=(_:Bool))=>?_|clear hK K))
   all_goals first|omega|skip
   have hpw:(C.1.drop i).Pairwise (fun a b=>a.loc<b.loc):=hrise.sublist (List.drop_sublist _ _)
   rw [hdr] at hpw
   exact ⟨⟨(i+1,u.loc),by omega,fun f hf=>(List.pairwise_cons.1 hpw).1 f hf⟩,lew,by simp;omega⟩
  ·(have tk:=za zbA <| za zaZ <| za zF <| za zbJ <| zb Tryz.prog;have fx:=(⟨hcmp,hlw⟩:_∧_);repeat' (first|(refine hK _ ?_;clear hK K)|refine va fun K hK=>?_|refine vb ?_|refine wc ?_ ?_|exact we|refine fun (hc:_=(_:Bool))=>?_|clear hK K))
   all_goals omega
 ·have hb:(((zK x).2 !=0)||((zW x).2 !=0))=true:=by simp [hc0]
  have hb1:((zK x).2 !=0)=true:=by simpa using hc0
  have hn:=zo2 hc0
  have hl0:((([]:List Fnd).length:Nat):Int)=0:=rfl
  (have tk:=za zbA <| za zaZ <| za zF <| za zbJ <| zb Tryz.prog;have fx:=(⟨hg,hb1,hn,hl0⟩:_∧_∧_∧_);repeat' (first|(refine hK _ ?_;clear hK K)|refine va fun K hK=>?_|refine vb ?_|refine wc ?_ ?_|exact we|refine fun (hc:_=(_:Bool))=>?_|clear hK K))
  all_goals omega
end Go.Aw
