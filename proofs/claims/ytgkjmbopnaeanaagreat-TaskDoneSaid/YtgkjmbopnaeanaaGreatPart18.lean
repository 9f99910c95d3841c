/-
  Parts of the proof: PlanE, PlanG, TxnA, TxnB, RefcA (short names; the readable texts lie in the repo, under wip).
-/
import Derived.Test.YtgkjmbopnaeanaaGreatPart15
import Derived.Test.YtgkjmbopnaeanaaGreatPart17
set_option maxRecDepth 100000
set_option maxHeartbeats 2000000
set_option linter.unusedSimpArgs false
set_option linter.unusedVariables false
namespace Go.Aw
open Go Go.Proofs
def pfitZ:List Int→List (Int×Txt)→Bool
 |_,[]=>true
 |seen,q::r=>secOk q.1&& !seen.contains q.1&&((q.2.length:Int)==64)&&pfitZ (seen++ [q.1]) r
theorem zic:∀ (t:List Int) (s:List Txt) (seen:List Int),pfitL seen t s=pfitZ seen (t.zip s)
 | [],s,seen=>by simp [pfitL,pfitZ]
 |t::r,[],seen=>by simp [pfitL,pfitZ]
 |t::r,s::q,seen=>by simp only [pfitL,pfitZ,List.zip_cons_cons,zic r q]
theorem zgR:∀ (l:List (Int×Txt)) (seen:List Int) (q:Int×Txt),pfitZ seen (l++ [q])=(pfitZ seen l&&(secOk q.1&& !(seen++l.map (·.1)).contains q.1&&((q.2.length:Int)==64)))
 | [],seen,q=>by simp [pfitZ]
 |a::l,seen,q=>by
  rw [List.cons_append,pfitZ,pfitZ,zgR l,List.map_cons,List.append_assoc,List.singleton_append]
  simp only [Bool.and_assoc]
theorem zr2:∀ (t:List Int) (s:List Txt) (k:Nat) (x:Txt) (y:Int),t[k]?=some y→t.zip (s.set k x)=(t.zip s).set k (y,x)
 | [],s,k,x,y,h=>by simp at h
 |t::r,[],k,x,y,h=>by simp
 |t::r,a::s,0,x,y,h=>by
  have:t=y:=by simpa using h
  subst this
  simp
 |t::r,a::s,k+1,x,y,h=>by
  simp only [List.set_cons_succ,List.zip_cons_cons]
  rw [zr2 r s k x y (by simpa using h)]
theorem zlL:∀ (l:List (Int×Txt)) (seen:List Int) (k:Nat) (y:Int) (x:Txt),(∃z,l[k]?=some (y,z))→(x.length:Int)=64→pfitZ seen l=true→pfitZ seen (l.set k (y,x))=true
 | [],seen,k,y,x,h,hx,hf=>by obtain ⟨z,h⟩:=h;simp at h
 |a::l,seen,0,y,x,h,hx,hf=>by
  obtain ⟨z,h⟩:=h
  have:a=(y,z):=by simpa using h
  subst this
  simp only [List.set_cons_zero,pfitZ,Bool.and_eq_true] at hf ⊢
  exact ⟨⟨hf.1.1,by simpa using hx⟩,hf.2⟩
 |a::l,seen,k+1,y,x,h,hx,hf=>by
  simp only [List.set_cons_succ,pfitZ,Bool.and_eq_true] at hf ⊢
  exact ⟨hf.1,zlL l _ k y x (by simpa using h) hx hf.2⟩
theorem pfit_iff {p:Plan} :pfit p=true↔p.targets.length=p.texts.length∧p.targets.length≤24∧pfitZ [] (p.targets.zip p.texts)=true:=by
 simp only [pfit,Bool.and_eq_true,decide_eq_true_eq,zic,and_assoc]
theorem zr3 {l:List Int} {a:Int} (h:pfind l a= -1):l.contains a=false:=by
 have:=znb (fun x=>x==a) l 0
 unfold pfind at h
 rw [h] at this
 rw [← List.any_beq']
 simpa using this.symm
theorem zd8 {p:Plan} {at_:Int} {s:Txt} (hp:pfit p=true):pfit (pset p at_ s).1=true:=by
 obtain ⟨h1,h2,h3⟩:=pfit_iff.1 hp
 unfold pset
 split
 ·exact hp
 rename_i hs
 have hs:secOk at_=true:=by simpa using hs
 split
 ·exact hp
 rename_i hl
 have hl:(s.length:Int)=64:=by simpa using hl
 rcases zcQ p.targets at_ with hk|⟨k,hk,hkl⟩
 ·rw [if_neg (by omega)]
  split
  ·exact hp
  ·rename_i h24
   refine pfit_iff.2 ⟨by simp [h1],by simp;omega,?_⟩
   rw [List.zip_append h1]
   show pfitZ [] (p.targets.zip p.texts++ [(at_,s)])=true
   rw [zgR,h3,hs]
   have:(p.targets.zip p.texts).map (·.1)=p.targets:=by rw [List.map_fst_zip (by omega)]
   rw [List.nil_append,this,zr3 hk,hl]
   rfl
 ·rw [if_pos (by omega),hk,Int.toNat_natCast]
  obtain ⟨y,hy⟩:=zai hkl
  obtain ⟨z,hz⟩:=zai (l:=p.texts) (i:=k) (by omega)
  refine pfit_iff.2 ⟨by simp [h1],h2,?_⟩
  show pfitZ [] (p.targets.zip (p.texts.set k s))=true
  rw [zr2 _ _ _ _ y hy]
  exact zlL _ _ _ _ _ ⟨z,List.getElem?_zip_eq_some.2 ⟨hy,hz⟩⟩ hl h3
theorem zjy {d:Disk} {p:Plan} {at_ off:Int} {s:Txt} (hp:pfit p=true):pfit (zfR d p at_ off s).1=true:=by
 unfold zfR
 split
 ·exact hp
 split
 ·exact hp
 ·exact zd8 hp
theorem zr4 (d:Disk) (p:Plan) (at_ off:Int) (s:Txt) (hp:DiskOk d∧d.cache.all (putOk d)=true∧pfit p=true∧s.length≤9223372036854775807):AC 254 [diskA d,planA p,.d (.int .i64 at_),.d (.int .i64 off),.d (.str s)] (.tup [planA (zfR d p at_ off s).1,.d (.int .i64 (zfR d p at_ off s).2)]):=by
 obtain ⟨hd,hf,hp,hs⟩:=hp
 refine fbod Tryz.func254 Tryz.ntmps254 (fun base=>?_)
 obtain ⟨hl,h24,h64⟩:=zaJ hp
 have hpo:PlanOk p:=⟨by omega,by omega⟩
 have hb:=zlE (at_:=at_) hf hp
 refine' walkW fx (za zaE <| za zam <| za zda <| zb _)
 all_goals first|(simp_all [zfR];done)|skip
@[go_sem] noncomputable def zbu:Ent Tryz.prog 254:= .m5 zA zN (intT .i64) (intT .i64) strT zr4
open Go Go.Proofs
def seenM (l:List Int):List (D×D):=l.map fun n=>(.int .i64 n,.bool true)
@[go_sem] theorem zxy:seenM []= []:=rfl
theorem zp2 (l:List Int):((seenM l).all fun p=>alike (.int .i64) p.1)=true:=by
 simp [seenM,alike]
theorem zwm (n m:Int) (v:D) (l:List (D×D)):mat (.int .i64 n) ((.int .i64 m,v)::l)=if n=m then some v else mat (.int .i64 n) l:=by
 by_cases h:n=m<;>simp [mat,sameS,h]
theorem zuf (n m:Int) (w v:D) (l:List (D×D)):mput (.int .i64 n) w ((.int .i64 m,v)::l)=if n=m then (.int .i64 n,w)::l else (.int .i64 m,v)::mput (.int .i64 n) w l:=by
 by_cases h:n=m<;>simp [mput,sameS,h]
theorem zo1 (n:Int):∀l:List Int,((mat (.int .i64 n) (seenM l)).getD (.bool false))= .bool (l.contains n)
 | []=>rfl
 | m::l=>by
  have ih:=zo1 n l
  have e:seenM (m::l)=(.int .i64 m,.bool true)::seenM l:=rfl
  rw [e,zwm,List.contains_cons]
  by_cases h:n=m
  ·subst h;simp
  ·rw [if_neg h,ih]
   simp [h]
theorem zo2 (n:Int):∀l:List Int,l.contains n=false→mput (.int .i64 n) (.bool true) (seenM l)=seenM (l++ [n])
 | [],_=>rfl
 |m::l,h=>by
  simp only [List.contains_cons,Bool.or_eq_false_iff] at h
  have ih:=zo2 n l h.2
  have e:seenM (m::l)=(.int .i64 m,.bool true)::seenM l:=rfl
  rw [e,zuf,if_neg (by simpa using h.1),ih]
  rfl
theorem zlM:∀ (l r:List (Int×Txt)) (seen:List Int),pfitZ seen (l++r)=(pfitZ seen l&&pfitZ (seen++l.map (·.1)) r)
 | [],r,seen=>by simp [pfitZ]
 |a::l,r,seen=>by
  rw [List.cons_append,pfitZ,pfitZ,zlM l,List.map_cons,List.append_assoc,List.singleton_append]
  simp only [Bool.and_assoc]
theorem zwn (p:Plan) (hp:PlanOk p):AC 263 [planA p] (.d (.bool (pfit p))):=by
 refine fbod Tryz.func263 Tryz.ntmps263 (fun base=>?_)
 have h1:=hp.targets
 have h2:=hp.texts
 refine' walkR fx (za zdt <| za zbU <| zb _)
 ·have:pfit p=false:=by
   simp only [Bool.or_eq_true,bne_iff_ne,decide_eq_true_eq] at hc
   rw [pfit]
   rcases hc with hc|hc
   ·rw [decide_eq_false (p:=p.targets.length=p.texts.length) (by omega)];simp
   ·rw [decide_eq_false (p:=p.targets.length≤24) (by omega)];simp
  rw [this]
 obtain ⟨hl,h24⟩:p.targets.length=p.texts.length∧p.targets.length≤24:=by
  simp only [Bool.or_eq_false_iff,bne_eq_false_iff_eq,decide_eq_false_iff_not] at hc
  omega
 have hfit:pfit p=pfitZ [] (p.targets.zip p.texts):=by
  rw [pfit,decide_eq_true hl,decide_eq_true h24,zic];simp
 obtain ⟨I,hI⟩:∃I:List (List AV)→AHeap×Option (List (List AV)),I=fun xs=>([(3,.var [.map 2]),(2,.omap (seenM ((xs.map unI).map (·.1)))),(1,.var [.d (.bool false)]),(0,.var [.d (.sl 1 (p.targets.map intD)),.d (.sl 1 (p.texts.map strD))])],some []):=⟨_,rfl⟩
 obtain ⟨G,hG⟩:∃G:List (List AV)→Prop,G=fun xs=>pfitZ [] (xs.map unI)=true:=⟨_,rfl⟩
 obtain ⟨J,hJ⟩:∃J:Code→AHeap→Option (List (List AV))→Prop,J=fun c h g=>c= .ret∧g=some []∧pfit p=false∧∃m,h= [(3,.var [.map 2]),(2,.omap m),(1,.var [.d (.bool false)]),(0,.var [.d (.sl 1 (p.targets.map intD)),.d (.sl 1 (p.texts.map strD))])]:=⟨_,rfl⟩
 refine zbz 100 G I J (zid p hp hl) (by simp only [go_sem,aeq,aeq.aeqF,simprocAttr]) rfl (z2 rfl) (by simp [cxOf,cxY]) rfl (by rw [hG];first|trivial|rfl|simp) (by rw [hI];simp only [AS.le,leT,leH,zf,AsgK,AV.le,AV.leL,AObj.le,inH,idsT,idsH,AV.ids,AV.idsL,AV.idsR,AObj.ids,lk,hget,go_sem,aeq,aeq.aeqF,simprocAttr]<;>simp [AV.leL,AV.le]) (by rw [hI];simp only [AS.le,leT,leH,zf,AsgK,AV.le,AV.leL,AObj.le,inH,idsT,idsH,AV.ids,AV.idsL,AV.idsR,AObj.ids,lk,hget,go_sem,aeq,aeq.aeqF,simprocAttr]<;>simp) (by rw [hI]<;>rfl) (by intro x hx;obtain ⟨q,_,rfl⟩:=List.mem_map.1 hx;rfl) (by intro t ht;simp at ht;first|(rcases ht with rfl|rfl<;>simp [cxOf,cxY]<;>done)|(subst ht;simp [cxOf,cxY])) ?_ ?_ ?_
 ·intro xs x hpre hgd l1 r1
  obtain ⟨ys,⟨n,s⟩,zs,rfl,rfl,hzl⟩:=zdT hpre
  rw [hG] at hgd
  simp only [zeD] at hgd
  have hall:pfit p=pfitZ (ys.map (·.1)) ((n,s)::zs):=by
   rw [hfit,hzl,zlM,hgd];rfl
  rw [pfitZ] at hall
  simp only [zcA]
  refine aw_le ⟨[(22,true,.d (.int .i64 n)),(23,true,.d (.str s)),(1,true,.vp 0 0),(2,true,.vp 1 0),(3,true,.vp 3 0)],[(3,.var [.map 2]),(2,.omap (seenM (ys.map (·.1)))),(1,.var [.d (.bool false)]),(0,.var [.d (.sl 1 (p.targets.map intD)),.d (.sl 1 (p.texts.map strD))])],some []⟩ (by rw [hI];simp only [zeD];simp only [AS.le,leT,leH,zf,AsgK,AV.le,AV.leL,AObj.le,inH,idsT,idsH,AV.ids,AV.idsL,AV.idsR,AObj.ids,lk,hget,go_sem,aeq,aeq.aeqF,simprocAttr]) ?_
  have hsm:=zo1 n (ys.map (·.1))
  have hsa:=zp2 (ys.map (·.1))
  have hsn:((ys.map zcA++ [[AV.d (.int .i64 n),AV.d (.str s)]]).map unI)=ys++ [(n,s)]:=by
   rw [List.map_append,zeD];rfl
  refine' walkR (zS hI hsn hsm hsa) (za zdt <| za zbU <| zb _)
  ·rw [hJ]
   refine ⟨rfl,rfl,?_,_,rfl⟩
   have hh:(!secOk n||(ys.map (·.1)).contains n||((s.length:Int) !=64))= !(secOk n&& !(ys.map (·.1)).contains n&&((s.length:Int)==64)):=by
    rw [Bool.not_and,Bool.not_and,Bool.not_not];rfl
   rw [hh] at hc
   simp only [Bool.not_eq_true'] at hc
   rw [hall,hc,Bool.false_and]
  ·rw [hG]
   simp only [hsn]
   simp only [Bool.or_eq_false_iff,Bool.not_eq_false',bne_eq_false_iff_eq] at hc
   rw [zgR,hgd,List.nil_append,hc.1.1,hc.1.2,hc.2]
   rfl
  ·simp only [Bool.or_eq_false_iff] at hc
   rw [zo2 _ _ hc.1.2,List.map_append]
   rfl
 ·intro hgd
  rw [hG] at hgd
  simp only [zeD] at hgd
  rw [hI]
  refine' zb9 fx
  rw [hfit,hgd]
 ·rw [hJ]
  rintro c h3 g3 ⟨rfl,rfl,hno,m,rfl⟩
  refine' zb9 fx
  rw [hno]
@[go_sem] noncomputable def zie:Ent Tryz.prog 263:= .m1 zN zwn
open Go Go.Proofs
structure DiskF (d:Disk):Prop where
 ok:DiskOk d
 puts:d.cache.all (putOk d)=true
theorem zlP {d d':Disk} (h:d'.data.length=d.data.length):putOk d'=putOk d:=by
 funext q
 unfold putOk there dsize
 rw [h]
theorem zgS (d:Disk):(burnt d).data=d.data:=by unfold burnt;split<;>rfl
theorem zeE (d:Disk):(burnt d).cache=d.cache:=by unfold burnt;split<;>rfl
theorem zii (d:Disk) (a:Int) (s:Txt):(zU d a s).1.data=d.data:=by
 unfold zU
 repeat' split
 all_goals first|rfl|(rw [zgS])
theorem DiskF.write {d:Disk} (h:DiskF d) (a:Int) (s:Txt):DiskF (zU d a s).1:=by
 refine ⟨zib h.ok a s,?_⟩
 have e:=zlP (d:=d) (d':=(zU d a s).1) (by rw [zii])
 rw [e]
 unfold zU
 split
 ·exact h.puts
 split
 ·exact h.puts
 split
 ·exact h.puts
 split
 ·exact h.puts
 split
 ·exact h.puts
 split
 ·exact h.puts
 ·rename_i h1 h2 h3 h4 h5 h6
  rw [zeE,List.all_append,h.puts]
  have h3:(s.length:Int)=64:=by simpa using h3
  simp [putOk,h3]
  simpa using h2
theorem zjA {d:Disk} (h:d.cache.all (putOk d)=true):(dflush d).1.data.length=d.data.length:=by
 unfold dflush
 split
 ·rfl
 split
 ·rfl
 ·rw [zgS];exact zjw h
theorem DiskF.flush {d:Disk} (h:DiskF d):DiskF (dflush d).1:=by
 have hl:=zjA h.puts
 refine ⟨?_,?_⟩
 ·revert hl
  unfold dflush
  split
  ·intro _;exact h.ok
  split
  ·intro _;exact ⟨h.ok.data,h.ok.cache,h.ok.bad,h.ok.fuse0,h.ok.fuse1⟩
  ·intro hl
   rw [zgS] at hl
   exact zoT ⟨by rw [hl];exact h.ok.data,by simp,h.ok.bad,h.ok.fuse0,h.ok.fuse1⟩
 ·rw [zlP hl]
  unfold dflush
  split
  ·exact h.puts
  split
  ·exact h.puts
  ·rw [zeE];rfl
theorem DiskF.layL:∀ (l:List (Int×Txt)) {d:Disk},DiskF d→DiskF (layL d l).1
 | [],d,h=>h
 |q::l,d,h=>by
  rw [Aw.layL]
  split
  ·exact h.write q.1 q.2
  ·exact DiskF.layL l (h.write q.1 q.2)
def encT (l:List Int):Txt:=l.flatMap (fun t=>putN t.toNat 4)
def padR (s:Txt):Txt:=(padS s 64).1
def trows (l:List Int):List Txt:=if l.length≤16 then [padR (encT l)] else [padR (encT (l.take 16)),padR (encT (l.drop 16))]
def tbody (p:Plan):List Txt:=trows p.targets++p.texts
def thead (seq:Int) (p:Plan):Txt:=putN seq.toNat 8++putN p.targets.length 2
def tsum (c:Int) (l:List Txt):Int:=l.foldl sumOf c
def zvK:Txt:= [67,79,70,74]
def ttop (seq:Int) (p:Plan):Txt:=padR (zvK++thead seq p++putN (65535 - p.targets.length) 2++zfT (tsum (sumOf 0 (thead seq p)) (tbody p)))
def zcb (seq:Int) (p:Plan):List Txt:=ttop seq p::tbody p
theorem zo4 {p:Plan} (hp:pfit p=true):∀t∈p.targets,0≤t∧t<1024:=by
 obtain ⟨h1,h2,h3⟩:=pfit_iff.1 hp
 have key:∀ (l:List (Int×Txt)) (seen:List Int),pfitZ seen l=true→∀q∈l,0≤q.1∧q.1<1024:=by
  intro l
  induction l with
  |nil=>intro _ _ q hq;simp at hq
  | cons a l ih=>
   intro seen h q hq
   simp only [pfitZ,Bool.and_eq_true] at h
   rcases List.mem_cons.1 hq with rfl|hq
   ·have:=h.1.1.1
    simpa [secOk] using this
   ·exact ih _ h.2 q hq
 intro t ht
 obtain ⟨i,hi,rfl⟩:=List.mem_iff_getElem.1 ht
 have hz:(p.targets.zip p.texts)[i]?=some (p.targets[i],p.texts[i]'(by omega)):=List.getElem?_zip_eq_some.2 ⟨by simp [hi],by simp⟩
 exact key _ _ h3 _ (List.mem_of_getElem? hz)
theorem zuj (s:Txt) (hs:s.length≤9223372036854775807):AC 247 [.d (.str s)] (.d (.str (padR s))):=by
 refine bod Tryz.func247 Tryz.ntmps247 (fun base=>?_)
 refine' walkW fx (za zgQ <| zb _)
 rfl
@[go_sem] noncomputable def zdC:Ent Tryz.prog 247:= .m1 strT zuj
open Go Go.Proofs
structure Tx where
 seq:Int
 plan:Plan
 deriving DecidableEq
def txA (t:Tx):AV:= .agg [.d (.int .u64 t.seq),.d (.sl 1 (t.plan.targets.map intD)),.d (.sl 1 (t.plan.texts.map strD))]
attribute [go_sem] txA
theorem zxB (t:Tx):Tx.mk t.seq t.plan=t:=rfl
noncomputable def txA_T:PT Tx:=aggT (consL (intT .u64) (consL (slT 1 intD zc2) (consL (slT 1 strD zgj) nilL))) (fun p=>⟨p.1,⟨p.2.1,p.2.2.1⟩⟩) (fun x=>(x.seq,x.plan.targets,x.plan.texts,())) (fun _=>rfl)
attribute [go_sem] txA_T
attribute [go_sem] zxB
def trest (l:List Int) (i:Nat):List Txt×Txt:=
 if i=l.length then (trows l,[]) else if i<16 then ([],encT (l.take i)) else ([padR (encT (l.take 16))],encT ((l.take i).drop 16))
theorem zij (l:List Int) (t:Int):encT (l++ [t])=encT l++putN t.toNat 4:=by simp [encT]
theorem zeF (l:List Int):(encT l).length=4*l.length:=by
 induction l with
 |nil=>rfl
 |cons a l ih=>simp only [encT,List.flatMap_cons,List.length_append,zu,List.length_cons] at ih ⊢;omega
theorem zsh {n:Nat} (h:n<18446744073709551616):IntKind.u64.wrap (n:Int)=n:=zT (by omega) (by omega)
theorem zwx (l:List Int) (h:0<l.length):trest l 0=([],[]):=by
 rw [trest,if_neg (by omega),if_pos (by omega)];rfl
theorem zp9 {l:List Int} {i:Nat} {t:Int} (hq:l[i]?=some t) (h24:l.length≤24):
  trest l (i+1)=if i+1=l.length∨i % 16=15 then ((trest l i).1++ [padR ((trest l i).2++putN t.toNat 4)],[]) else ((trest l i).1,(trest l i).2++putN t.toNat 4):=by
 have hlt:i<l.length:=(List.getElem?_eq_some_iff.1 hq).1
 have htk:l.take (i+1)=l.take i++ [t]:=zcz hq
 have e0:trest l i=if i<16 then ([],encT (l.take i)) else ([padR (encT (l.take 16))],encT ((l.take i).drop 16)):=by
  rw [trest,if_neg (by omega)]
 rw [e0]
 by_cases h16:i<16
 ·simp only [if_pos h16]
  rw [List.nil_append,← zij,← htk]
  by_cases he:i+1=l.length
  ·rw [if_pos (.inl he),trest,if_pos he,trows,if_pos (by omega),he,List.take_length]
  ·by_cases h15:i % 16=15
   ·rw [if_pos (.inr h15),trest,if_neg he,if_neg (by omega)]
    have:i+1=16:=by omega
    rw [this,List.drop_of_length_le (by rw [List.length_take];omega)]
    rfl
   ·rw [if_neg (by omega),trest,if_neg he,if_pos (by omega)]
 ·simp only [if_neg h16]
  have hd:(l.take (i+1)).drop 16=(l.take i).drop 16++ [t]:=by
   rw [htk,List.drop_append_of_le_length (by rw [List.length_take];omega)]
  rw [← zij,← hd]
  by_cases he:i+1=l.length
  ·rw [if_pos (.inl he),trest,if_pos he,trows,if_neg (by omega),he,List.take_length]
   rfl
  ·rw [if_neg (by omega),trest,if_neg he,if_neg (by omega)]
theorem zko:∀ (l:List Txt) (c:Int),0≤c→c≤4294967295→0≤tsum c l∧tsum c l≤4294967295
 | [],c,h0,h1=>⟨h0,h1⟩
 |s::l,c,h0,h1=>zko l _ (zf3 c s h0 h1).1 (zf3 c s h0 h1).2
theorem zlT (l:List Txt) (c:Int) (s:Txt):tsum c (l++ [s])=sumOf (tsum c l) s:=by simp [tsum]
theorem zhH {s:Txt} (h:s.length≤64):(padR s).length=64:=by
 rw [padR,padS,if_neg (by omega)]
 simp;omega
theorem zsi (l:List Int) (h:l.length≤24):∀s∈trows l,s.length=64:=by
 intro s hs
 unfold trows at hs
 split at hs
 ·simp only [List.mem_singleton] at hs
  subst hs
  exact zhH (by rw [zeF];omega)
 ·simp only [List.mem_cons,List.not_mem_nil,or_false] at hs
  rcases hs with rfl|rfl
  ·exact zhH (by rw [zeF,List.length_take];omega)
  ·exact zhH (by rw [zeF,List.length_drop];omega)
theorem zik {p:Plan} (hf:pfit p=true):∀s∈tbody p,s.length=64:=by
 obtain ⟨hl,h24,h64⟩:=zaJ hf
 intro s hs
 rcases List.mem_append.1 hs with h|h
 ·exact zsi _ h24 s h
 ·exact h64 s h
theorem zdD (c:Int):(zfT c).length=4:=rfl
theorem zqa (t:Tx) (hp:PlanOk t.plan∧pfit t.plan=true∧t.plan.targets.length≠0∧0≤t.seq∧t.seq<18446744073709551616):AC 210 [txA t] (.tup [.d (.sl 1 ((zcb t.seq t.plan).map strD)),.d (.int .i64 0)]):=by
 obtain ⟨hp,hf,hn,h0,h1⟩:=hp
 refine fbod Tryz.func210 Tryz.ntmps210 (fun base=>?_)
 obtain ⟨hl,h24,h64⟩:=zaJ hf
 have hrng:=zo4 hf
 have hn0:((t.plan.targets.length:Int)==0)=false:=by rw [beq_eq_false_iff_ne];omega
 refine' walkW (zk hf hn0) (za zdA <| za zR <| za zdC <| za zbB <| za zbv <| za zaB <| zb _)
 refine zcg 5 1 rfl ?_
 simp only [fresh,top,hget, ↓reduceIte]
 refine zo (fun q: { i:Nat // i≤t.plan.targets.length } =>⟨[(1,true,.vp 0 0),(4,true,.d (.int .i64 t.plan.targets.length)),(5,true,.osl 1 1 (trest t.plan.targets q.1).1.length 0 (trest t.plan.targets q.1).1.length),(6,true,.d (.str (trest t.plan.targets q.1).2)),(7,true,.d (.int .i64 q.1))],[(1,.arr 1 ((trest t.plan.targets q.1).1.map strD)),(0,.var [.d (.int .u64 t.seq),.d (.sl 1 (t.plan.targets.map intD)),.d (.sl 1 (t.plan.texts.map strD))])],some []⟩) (fun q=>t.plan.targets.length - q.1) ⟨0,Nat.zero_le _⟩ (by simp only [zwx _ (Nat.pos_of_ne_zero hn)];simp only [AS.le,leT,leH,zf,AsgK,AV.le,AV.leL,AObj.le,inH,idsT,idsH,AV.ids,AV.idsL,AV.idsR,AObj.ids,lk,hget,go_sem,aeq,aeq.aeqF,simprocAttr]<;>and_intros<;>rfl) (fun q=>?_)
 obtain ⟨i,hi⟩:=q
 simp only at hi ⊢
 rcases zD intD t.plan.targets i hi with ⟨m,hq,hlt,hcmp,hrow,hdr,htk⟩|⟨hend,hcmp⟩
 ·simp only [intD] at hrow
  have hwi:=zn (i:=i) (by omega)
  obtain ⟨hm0,hm1⟩:=hrng m (List.mem_of_getElem? hq)
  have hwm:IntKind.u64.wrap m=m:=zT (by omega) (by omega)
  have hp4:putS8 m 4=putN m.toNat 4:=by rw [putS8,if_neg (by omega)];rfl
  have hts:=zp9 hq h24
  have hl6:(trest t.plan.targets i).2.length≤96:=by
   have e0:trest t.plan.targets i=if i<16 then ([],encT (t.plan.targets.take i)) else ([padR (encT (t.plan.targets.take 16))],encT ((t.plan.targets.take i).drop 16)):=by
    rw [trest,if_neg (by omega)]
   rw [e0]
   split
   ·simp only [zeF,List.length_take];omega
   ·simp only [zeF,List.length_take,List.length_drop];omega
  have hn1:IntKind.i64.wrap ((t.plan.targets.length:Int) - 1)=(t.plan.targets.length:Int) - 1:=ze (by omega) (by omega)
  have hl4:(putN m.toNat 4).length=4:=zu _ _
  have hcl:(trest t.plan.targets i).1.length≤1:=by
   have e0:trest t.plan.targets i=if i<16 then ([],encT (t.plan.targets.take i)) else ([padR (encT (t.plan.targets.take 16))],encT ((t.plan.targets.take i).drop 16)):=by
    rw [trest,if_neg (by omega)]
   rw [e0]
   split<;>simp
  by_cases hc:i+1=t.plan.targets.length∨i % 16=15
  ·have hdec:(((i:Int)==(t.plan.targets.length:Int) - 1)||((i:Int).tmod 16==15))=true:=by
    rw [Bool.or_eq_true,beq_iff_eq,beq_iff_eq,Int.tmod_eq_emod_of_nonneg (by omega)]
    omega
   rw [if_pos hc] at hts
   refine' walkW (zq hcmp hrow hwm hp4 hn1 (zr hdec @List.length_append.{0} hl4)) (za zdA <| za zR <| za zdC <| za zbB <| za zbv <| za zaB <| zb _)
   all_goals first|omega|(simp only [List.length_append,hl4];omega)|skip
   exact ⟨⟨i+1,by omega⟩,by simp only [hts,List.map_append,List.length_append,List.length_singleton];simp only [AS.le,leT,leH,zf,AsgK,AV.le,AV.leL,AObj.le,inH,idsT,idsH,AV.ids,AV.idsL,AV.idsR,AObj.ids,lk,hget,go_sem,aeq,aeq.aeqF,simprocAttr,hwi]<;>and_intros<;>rfl,by simp;omega⟩
  ·have hdec:(((i:Int)==(t.plan.targets.length:Int) - 1)||((i:Int).tmod 16==15))=false:=by
    rw [Bool.or_eq_false_iff,beq_eq_false_iff_ne,beq_eq_false_iff_ne,Int.tmod_eq_emod_of_nonneg (by omega)]
    omega
   rw [if_neg hc] at hts
   refine' walkW (zq hcmp hrow hwm hp4 hn1 (zr hdec @List.length_append.{0} hl4)) (za zdA <| za zR <| za zdC <| za zbB <| za zbv <| za zaB <| zb _)
   all_goals first|omega|(simp only [List.length_append,hl4];omega)|skip
   exact ⟨⟨i+1,by omega⟩,by simp only [hts];simp only [AS.le,leT,leH,zf,AsgK,AV.le,AV.leL,AObj.le,inH,idsT,idsH,AV.ids,AV.idsL,AV.idsR,AObj.ids,lk,hget,go_sem,aeq,aeq.aeqF,simprocAttr,hwi],by simp;omega⟩
 ·subst hend
  have he:trest t.plan.targets t.plan.targets.length=(trows t.plan.targets,[]):=by rw [trest,if_pos rfl]
  have htr:(trows t.plan.targets).length≤2:=by unfold trows;split<;>simp
  have hu:IntKind.u64.wrap (t.plan.targets.length:Int)=(t.plan.targets.length:Int):=zsh (by omega)
  have hp8:putS8 t.seq 8=putN t.seq.toNat 8:=by rw [putS8,if_neg (by omega)];rfl
  have hp2:putS8 (t.plan.targets.length:Int) 2=putN t.plan.targets.length 2:=by rw [putS8,if_neg (by omega)];rfl
  have hw5:IntKind.i64.wrap (65535 - (t.plan.targets.length:Int))=((65535 - t.plan.targets.length:Nat):Int):=by rw [ze (by omega) (by omega)];omega
  have hu5:IntKind.u64.wrap ((65535 - t.plan.targets.length:Nat):Int)=((65535 - t.plan.targets.length:Nat):Int):=zsh (by omega)
  have hp5:putS8 ((65535 - t.plan.targets.length:Nat):Int) 2=putN (65535 - t.plan.targets.length) 2:=by rw [putS8,if_neg (by omega)];rfl
  have hl8:=zu t.seq.toNat 8
  have hl2:=zu t.plan.targets.length 2
  have hl5:=zu (65535 - t.plan.targets.length) 2
  simp only [he]
  refine' walkW (zq hcmp he hu hp8 hp2 (zr @List.length_append.{0} hl8 hl2)) (za zdA <| za zR <| za zdC <| za zbB <| za zbv <| za zaB <| zb _)
  have hB:(tbody t.plan).map strD=(trows t.plan.targets).map strD++t.plan.texts.map strD:=by rw [tbody,List.map_append]
  have hBl:(tbody t.plan).length=(trows t.plan.targets).length+t.plan.texts.length:=by rw [tbody,List.length_append]
  rw [← hB,← hBl]
  obtain ⟨B,hBe⟩:∃B,B=tbody t.plan:=⟨_,rfl⟩
  have hB64:∀s∈B,s.length=64:=by rw [hBe];exact zik hf
  rw [← hBe] at hB hBl ⊢
  obtain ⟨H,hH⟩:∃H,H=putN t.seq.toNat 8++putN t.plan.targets.length 2:=⟨_,rfl⟩
  have hHl:H.length=10:=by rw [hH,List.length_append,hl8,hl2]
  rw [← hH]
  have hc0:0≤sumOf 0 H∧sumOf 0 H≤4294967295:=zf3 0 H (by omega) (by omega)
  refine zo (fun q: { k:Nat // k≤B.length } =>⟨[(1,true,.vp 0 0),(4,true,.d (.int .i64 t.plan.targets.length)),(5,true,.osl 1 1 B.length 0 B.length),(8,true,.d (.str H)),(9,true,.d (.int .u32 (tsum (sumOf 0 H) (B.take q.1)))),(10,true,.d (.int .i64 q.1))],[(1,.arr 1 (B.map strD)),(0,.var [.d (.int .u64 t.seq),.d (.sl 1 (t.plan.targets.map intD)),.d (.sl 1 (t.plan.texts.map strD))])],some []⟩) (fun q=>B.length - q.1) ⟨0,Nat.zero_le _⟩ le1 (fun q=>?_)
  obtain ⟨k,hk⟩:=q
  simp only at hk ⊢
  rcases zD strD B k hk with ⟨s,hq,hlt,hcmp,hrow,hdr,htk⟩|⟨hend,hcmp⟩
  ·simp only [strD] at hrow
   have hwi:=zn (i:=k) (by omega)
   have hsl:=hB64 s (List.mem_of_getElem? hq)
   have hcr:=zko (B.take k) _ hc0.1 hc0.2
   have hsn:tsum (sumOf 0 H) (B.take (k+1))=sumOf (tsum (sumOf 0 H) (B.take k)) s:=by rw [htk,zlT]
   refine' walkW (zr hcmp hrow natC) (za zdA <| za zR <| za zdC <| za zbB <| za zbv <| za zaB <| zb _)
   exact ⟨⟨k+1,by omega⟩,by simp only [AS.le,leT,leH,zf,AsgK,AV.le,AV.leL,AObj.le,inH,idsT,idsH,AV.ids,AV.idsL,AV.idsR,AObj.ids,lk,hget,go_sem,aeq,aeq.aeqF,simprocAttr,hwi,hsn],by simp;omega⟩
  ·subst hend
   have hcr:=zko B _ hc0.1 hc0.2
   have htt:B.take B.length=B:=List.take_length
   have hbl:=zdD (tsum (sumOf 0 H) B)
   refine' walkW (zq hcmp hw5 hu5 hp5 @List.length_append.{0} (zq hHl hl5 hbl @List.length_cons.{0} @List.length_nil.{0} htt)) (za zdA <| za zR <| za zdC <| za zbB <| za zbv <| za zaB <| zb _)
   rw [if_pos (by omega),List.take_of_length_le (by simp;omega),zcb,ttop,List.map_cons,thead,← hH,← hBe]
   rfl
@[go_sem] noncomputable def zcq:Ent Tryz.prog 210:= .m1 txA_T zqa
open Go Go.Proofs
structure Geom where
 guest:Int
 host:Int
 deriving DecidableEq
def geomA (g:Geom):AV:= .agg [.d (.int .i64 g.guest),.d (.int .i64 g.host)]
attribute [go_sem] geomA
theorem zut (g:Geom):Geom.mk g.guest g.host=g:=rfl
noncomputable def zdl:PT Geom:=aggT (consL (intT .i64) (consL (intT .i64) nilL)) (fun p=>⟨p.1,p.2.1⟩) (fun x=>(x.guest,x.host,())) (fun _=>rfl)
attribute [go_sem] zdl
attribute [go_sem] zut
structure DP (d:Disk) (p:Plan):Prop where
 d:DiskF d
 p:pfit p=true
def p0:Plan:=⟨[],[]⟩
theorem zcc:pfit p0=true:=rfl
theorem DP.zero {d:Disk} {p:Plan} (h:DP d p):DP d p0:=⟨h.d,zcc⟩
theorem DP.dok {d:Disk} {p:Plan} (h:DP d p):DiskOk d:=h.d.ok
theorem DP.puts {d:Disk} {p:Plan} (h:DP d p):d.cache.all (putOk d)=true:=h.d.puts
theorem DP.pok {d:Disk} {p:Plan} (h:DP d p):PlanOk p:=by
 obtain ⟨hl,h24,_⟩:=zaJ h.p
 exact ⟨by omega,by omega⟩
theorem DP.plen {d:Disk} {p:Plan} (h:DP d p):p.targets.length=p.texts.length:=(zaJ h.p).1
theorem zks {d:Disk} {at_:Int} (hf:d.cache.all (putOk d)=true) (he:(dread d at_).2=0):(dread d at_).1.length=64:=by
 unfold dread at he ⊢
 repeat' split
 all_goals first|(simp_all;done)|skip
 exact zoY hf (by simp_all)
theorem zeG {d:Disk} {p:Plan} {at_:Int} (h:DP d p) (he:(plook d p at_).2=0):(plook d p at_).1.length=64:=by
 unfold plook at he ⊢
 rcases zcQ p.targets at_ with hk|⟨k,hk,hkl⟩
 ·rw [if_neg (by omega)] at he ⊢
  exact zks h.puts he
 ·rw [if_pos (by omega),hk,Int.toNat_natCast]
  obtain ⟨s,hq⟩:=zai (l:=p.texts) (i:=k) (by have:=h.plen;omega)
  rw [List.getD_eq_getElem?_getD,hq]
  exact (zaJ h.p).2.2 s (List.mem_of_getElem? hq)
def zV (k:Int):Bool:=decide (0≤k)&&decide (k<256)
def rget (d:Disk) (p:Plan) (k:Int):Int×Int:=
 if !zV k then (0,10) else if (plook d p (87+k / 32)).2≠0 then (0,(plook d p (87+k / 32)).2)
 else (((takeN (((plook d p (87+k / 32)).1.drop (2*(k % 32)).toNat).take 2):Nat):Int),0)
def radd (d:Disk) (p:Plan) (k by_:Int):Plan×Int:=
 if (rget d p k).2≠0 then (p,(rget d p k).2) else if by_< -(rget d p k).1∨65535 - (rget d p k).1<by_ then (p,18)
 else zfR d p (87+k / 32) (2*(k % 32)) (putN ((rget d p k).1+by_).toNat 2)
def zfb (d:Disk) (p:Plan):Nat→Int→Int×Int
 |0,_=>(0,17)
 |m+1,k=>if (rget d p k).2≠0 then (0,(rget d p k).2) else if (rget d p0 k).2≠0 then (0,(rget d p0 k).2)
  else if (rget d p k).1=0∧(rget d p0 k).1=0 then (k,0) else zfb d p m (k+1)
def rfind (d:Disk) (p:Plan) (g:Geom):Int×Int:=zfb d p g.host.toNat 0
def rtake (d:Disk) (p:Plan) (g:Geom):Plan×Int×Int:=
 if (rfind d p g).2≠0 then (p,0,(rfind d p g).2) else if (radd d p (rfind d p g).1 1).2≠0 then (p,0,(radd d p (rfind d p g).1 1).2)
 else ((radd d p (rfind d p g).1 1).1,(rfind d p g).1,0)
theorem zfC (d:Disk) (p:Plan) (k:Int):0≤(rget d p k).1∧(rget d p k).1≤65535:=by
 unfold rget
 split
 ·exact ⟨Int.le_refl 0,show (0:Int)≤65535 by decide⟩
 split
 ·exact ⟨Int.le_refl 0,show (0:Int)≤65535 by decide⟩
 ·have:=zd6 (l:=((plook d p (87+k / 32)).1.drop (2*(k % 32)).toNat).take 2) (i:=2) (by rw [List.length_take];omega)
  simp only
  omega
theorem zo7 {d:Disk} {p:Plan} {k by_:Int} (h:pfit p=true):pfit (radd d p k by_).1=true:=by
 unfold radd
 split
 ·exact h
 split
 ·exact h
 ·exact zjy h
theorem DP.radd {d:Disk} {p:Plan} (h:DP d p) (k by_:Int):DP d (radd d p k by_).1:=⟨h.d,zo7 h.p⟩
theorem DP.rtake {d:Disk} {p:Plan} (h:DP d p) (g:Geom):DP d (rtake d p g).1:=by
 unfold Aw.rtake
 split
 ·exact h
 split
 ·exact h
 ·exact h.radd _ _
theorem hostOk_iff {k:Int} :zV k=true↔0≤k∧k<256:=by simp [zV]
theorem zct (k:Int):(decide (k<0)||decide (256≤k))= !zV k:=by
 rw [zV,Bool.not_and]
 congr 1
 ·by_cases h:k<0
  ·rw [decide_eq_true h,decide_eq_false (by omega)];rfl
  ·rw [decide_eq_false h,decide_eq_true (by omega)];rfl
 ·by_cases h:k<256
  ·rw [decide_eq_true h,decide_eq_false (by omega)];rfl
  ·rw [decide_eq_false h,decide_eq_true (by omega)];rfl
theorem zfc {s:Txt} {z:Int} (n:Nat) (hz:z=n) (h0:0<n) (h8:n≤8) (h:n≤s.length):takeS s z=(((takeN (s.take n):Nat):Int),s.drop n,0):=by
 subst hz
 rw [takeS,if_neg (by omega),if_neg (by omega)]
 simp
theorem zuu (d:Disk) (p:Plan) (k:Int) (h:DP d p):AC 102 [diskA d,planA p,.d (.int .i64 k)] (.tup [.d (.int .i64 (rget d p k).1),.d (.int .i64 (rget d p k).2)]):=by
 refine bod Tryz.func102 Tryz.ntmps102 (fun base=>?_)
 have h1:=h.dok
 have h2:=h.pok
 have h3:=h.plen
 by_cases hk:zV k=true
 ·have hdec:(!zV k)=false:=by rw [hk];rfl
  obtain ⟨hk0,hk1⟩:=hostOk_iff.1 hk
  by_cases he:(plook d p (87+k / 32)).2=0
  ·have hb:((plook d p (87+k / 32)).2 !=0)=false:=by simpa using he
   have h64:=zeG h he
   have hts:=zfc (s:=((plook d p (87+k / 32)).1.drop (2*(k % 32)).toNat)) (z:=2) 2 rfl (by omega) (by omega) (by rw [List.length_drop];omega)
   have hr:=zfC d p k
   have hrg:rget d p k=(((takeN (((plook d p (87+k / 32)).1.drop (2*(k % 32)).toNat).take 2):Nat):Int),0):=by
    rw [rget,if_neg (by rw [hdec];exact Bool.false_ne_true),if_neg (by simpa using he)]
   have hwr:IntKind.i64.wrap (rget d p k).1=(rget d p k).1:=ze (by omega) (by omega)
   rw [hrg] at hwr
   simp only at hwr
   have hld:((plook d p (87+k / 32)).1.drop (2*(k % 32)).toNat).length≤64:=by rw [List.length_drop];omega
   have htk:List.take (plook d p (87+k / 32)).1.length (plook d p (87+k / 32)).1=(plook d p (87+k / 32)).1:=List.take_length
   refine' walkW (zq @zct hdec hb hts hwr htk) (za zdy <| za z6 <| za zaS <| zb _)
   rw [hrg]
  ·have hb:((plook d p (87+k / 32)).2 !=0)=true:=by simpa using he
   refine' walkW (zr @zct hdec hb) (za zdy <| za z6 <| za zaS <| zb _)
   rw [rget,if_neg (by rw [hdec];exact Bool.false_ne_true),if_pos he]
 ·have hdec:(!zV k)=true:=by simpa using hk
  refine' walkW (zk @zct hdec) (za zdy <| za z6 <| za zaS <| zb _)
  rw [rget,if_pos hdec]
@[go_sem] noncomputable def zaf:Ent Tryz.prog 102:= .m3 zA zN (intT .i64) zuu
theorem zhj {x:Int} :putS8 x 2=putN x.toNat 2:=by rw [putS8,if_neg (by omega)];rfl
theorem zfd {x:Int} :putS8 x 4=putN x.toNat 4:=by rw [putS8,if_neg (by omega)];rfl
theorem zjC {x:Int} :putS8 x 8=putN x.toNat 8:=by rw [putS8,if_neg (by omega)];rfl
theorem znr {d:Disk} {p:Plan} {k:Int} (h:(rget d p k).2=0):0≤k∧k<256:=by
 unfold rget at h
 by_cases hk:zV k=true
 ·exact hostOk_iff.1 hk
 ·rw [if_pos (by simpa using hk)] at h
  cases h
theorem zuv (d:Disk) (p:Plan) (k by_:Int) (h:DP d p):AC 71 [diskA d,planA p,.d (.int .i64 k),.d (.int .i64 by_)] (.tup [planA (radd d p k by_).1,.d (.int .i64 (radd d p k by_).2)]):=by
 refine fbod Tryz.func71 Tryz.ntmps71 (fun base=>?_)
 have h1:=h.dok
 have h2:=h.puts
 have h3:=h.p
 have hr:=zfC d p k
 by_cases he:(rget d p k).2=0
 ·have hb:((rget d p k).2 !=0)=false:=by simpa using he
  obtain ⟨hk0,hk1⟩:=znr he
  have hw1:IntKind.i64.wrap (0 - (rget d p k).1)= -(rget d p k).1:=by rw [ze (by omega) (by omega)];omega
  have hw2:IntKind.i64.wrap (65535 - (rget d p k).1)=65535 - (rget d p k).1:=ze (by omega) (by omega)
  by_cases hc:by_< -(rget d p k).1∨65535 - (rget d p k).1<by_
  ·have hdec:(decide (by_< -(rget d p k).1)||decide (65535 - (rget d p k).1<by_))=true:=by simpa using hc
   refine' walkW (zS hb hw1 hw2 hdec) (za zaf <| za zdy <| za zR <| za za5 <| zb _)
   rw [radd,if_neg (by simpa using he),if_pos hc]
  ·have hdec:(decide (by_< -(rget d p k).1)||decide (65535 - (rget d p k).1<by_))=false:=by simpa using hc
   have hw3:IntKind.i64.wrap ((rget d p k).1+by_)=(rget d p k).1+by_:=ze (by omega) (by omega)
   have hw4:IntKind.u64.wrap ((rget d p k).1+by_)=(rget d p k).1+by_:=zT (by omega) (by omega)
   have hpl:=zu ((rget d p k).1+by_).toNat 2
   refine' walkW (zq hb hw1 hw2 hw3 hw4 (zk hdec @zhj)) (za zaf <| za zdy <| za zR <| za za5 <| zb _)
   all_goals first|(rw [hpl];decide)|skip
   rw [radd,if_neg (by simpa using he),if_neg hc]
 ·have hb:((rget d p k).2 !=0)=true:=by simpa using he
  refine' walkW hb (za zaf <| za zdy <| za zR <| za za5 <| zb _)
  rw [radd,if_pos he]
@[go_sem] noncomputable def zbW:Ent Tryz.prog 71:= .m4 zA zN (intT .i64) (intT .i64) zuv
theorem zjD:∀ (d:Disk) (p:Plan) (m:Nat) (k:Int),(zfb d p m k).2=0→(0≤(zfb d p m k).1∧(zfb d p m k).1<256)
 |d,p,0,k,h=>by simp [zfb] at h
 | d,p,m+1,k,h=>by
  rw [zfb] at h ⊢
  split at h
  ·rename_i hc;exact absurd h hc
  rename_i hc0
  rw [if_neg hc0]
  split at h
  ·rename_i hc;exact absurd h hc
  rename_i hc1
  rw [if_neg hc1]
  split at h
  ·rename_i hc
   rw [if_pos hc]
   exact znr (by simpa using hc0)
  ·rename_i hc
   rw [if_neg hc]
   exact zjD d p m (k+1) h
theorem zsj (d:Disk) (p:Plan) (g:Geom) (hp:DP d p∧g.host≤1000000):AC 168 [diskA d,planA p,geomA g] (.tup [.d (.int .i64 (rfind d p g).1),.d (.int .i64 (rfind d p g).2)]):=by
 obtain ⟨h,hg⟩:=hp
 refine fbod Tryz.func168 Tryz.ntmps168 (fun base=>?_)
 have hz:=h.zero
 have hz0:p0=Plan.mk [] []:=rfl
 rw [hz0] at hz
 refine' walkW fx (za zaf <| za zbW <| zb _)
 refine zo (fun q: { i:Nat // (i:Int)≤max g.host 0∧rfind d p g=zfb d p (g.host.toNat - i) i } =>⟨[(3,true,.vp 0 0),(4,true,.vp 1 0),(5,true,.vp 2 0),(8,true,.d (.int .i64 q.1))],[(2,.var [.d (.int .i64 g.guest),.d (.int .i64 g.host)]),(1,.var [.d (.sl 1 (p.targets.map intD)),.d (.sl 1 (p.texts.map strD))]),(0,(.var [.d (.str d.data),.d (.sl 2 (d.cache.map putD)),.d (.int .i64 d.fuse),.d (.bool d.off),.d (.sl 1 (d.bad.map intD))]))],some []⟩) (fun q=>g.host.toNat - q.1) ⟨0,by omega,rfl⟩ le1 (fun q=>?_)
 obtain ⟨i,hi,hf⟩:=q
 simp only at hi hf ⊢
 by_cases hlt:(i:Int)<g.host
 ·have hcmp:decide ((i:Int)<g.host)=true:=decide_eq_true hlt
  have hwi:=zn (i:=i) (by omega)
  rw [show g.host.toNat - i=(g.host.toNat - (i+1))+1 by omega,zfb,hz0] at hf
  refine' walkW hcmp (za zaf <| za zbW <| zb _)
  all_goals first|(simp_all;done)|skip
  rename_i c0 c1
  have c0:¬(rget d p i).2≠0:=by simpa using c0
  have c1:¬(rget d ⟨[],[]⟩ i).2≠0:=by simpa using c1
  have c2:¬((rget d p i).1=0∧(rget d ⟨[],[]⟩ i).1=0):=by simpa using hc
  rw [if_neg c0,if_neg c1,if_neg c2] at hf
  exact ⟨⟨i+1,by omega,hf⟩,lew,by simp;omega⟩
 ·have hcmp:decide ((i:Int)<g.host)=false:=decide_eq_false hlt
  refine' walkW hcmp (za zaf <| za zbW <| zb _)
  rw [hf,show g.host.toNat - i=0 by omega]
  rfl
@[go_sem] noncomputable def zns:Ent Tryz.prog 168:= .m3 zA zN zdl zsj
theorem zsk (d:Disk) (p:Plan) (g:Geom) (hp:DP d p∧g.host≤1000000):AC 127 [diskA d,planA p,geomA g] (.tup [planA (rtake d p g).1,.d (.int .i64 (rtake d p g).2.1),.d (.int .i64 (rtake d p g).2.2)]):=by
 obtain ⟨h,hg⟩:=hp
 refine fbod Tryz.func127 Tryz.ntmps127 (fun base=>?_)
 refine' walkW fx (za zns <| za zbW <| zb _)
 all_goals simp_all [rtake]
@[go_sem] noncomputable def zau:Ent Tryz.prog 127:= .m3 zA zN zdl zsk
end Go.Aw
