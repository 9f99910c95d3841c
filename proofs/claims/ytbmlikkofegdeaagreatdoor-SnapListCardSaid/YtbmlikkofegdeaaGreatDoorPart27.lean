/-
  Parts of the proof: RootB, TabA, TabB, TabC (short names; the readable texts lie in the repo, under wip).
-/
import Derived.Test.YtbmlikkofegdeaaGreatDoorPart26
import Derived.Test.YtbmlikkofegdeaaGreatDoorPart17
import Derived.Test.YtbmlikkofegdeaaGreatDoorPart23
set_option maxRecDepth 100000
set_option maxHeartbeats 2000000
set_option linter.unusedSimpArgs false
set_option linter.unusedVariables false
namespace Go.Aw
open Go Go.Proofs
structure Snp where
 id:Int
 l1:Int
 name:Txt
 deriving DecidableEq
def snpA (s:Snp):AV:= .agg [.d (.int .u32 s.id),.d (.int .i64 s.l1),.d (.str s.name)]
attribute [go_sem] snpA
theorem zu6 (s:Snp):Snp.mk s.id s.l1 s.name=s:=rfl
noncomputable def zfK:PT Snp:=aggT (consL (intT .u32) (consL (intT .i64) (consL strT nilL))) (fun p=>⟨p.1,p.2.1,p.2.2.1⟩) (fun x=>(x.id,x.l1,x.name,())) (fun _=>rfl)
attribute [go_sem] zfK
attribute [go_sem] zu6
def snpD (s:Snp):List D:= [.int .u32 s.id,.int .i64 s.l1,.str s.name]
theorem zds:∀a b,snpD a=snpD b→a=b:=by
 rintro ⟨a,b,c⟩ ⟨a',b',c'⟩ h
 simp only [snpD,List.cons.injEq,D.str.injEq,D.int.injEq,true_and,and_true] at h
 rw [h.1,h.2.1,h.2.2]
def z16:Txt:=List.replicate 16 0
def snp0:Snp:=⟨0,0,[]⟩
def snpB (s:Snp):Txt×Bool:=
 if s.id=0∧s.l1=0∧s.name= [] then (z16,true)
 else if s.id=0∨zar s.name=false∨zH s.l1=false then ([],false)
 else (putN s.id.toNat 4++putN s.l1.toNat 2++ [0,0]++(nameS s.name).1,true)
def cutZ (s:Txt):Txt:=(s.reverse.dropWhile (· ==0)).reverse
def zdg (s:Txt):Txt×Int:=if s.length≠8 then ([],11) else if zar (cutZ s) then (cutZ s,0) else ([],19)
def snpR (b:Txt):Snp:=⟨((takeN (b.take 4):Nat):Int),((takeN ((b.drop 4).take 2):Nat):Int),(zdg (b.drop 8)).1⟩
def snpT (b:Txt):Snp:=if b=z16 then snp0 else snpR b
def snpOk (b:Txt):Bool:=(snpB (snpT b)).2&&((snpB (snpT b)).1==b)
def slotB (s:Txt) (i:Nat):Txt:=(s.take ((i % 4+1)*16)).drop (i % 4*16)
def snapsK (d:Disk) (p:Plan):Nat→Nat→List Snp→List Snp×Int
 |0,_,l=>(l,0)
 |m+1,i,l=>if (plook d p (2+(i / 4:Nat))).2≠0 then ([],(plook d p (2+(i / 4:Nat))).2)
  else if snpOk (slotB (plook d p (2+(i / 4:Nat))).1 i) then snapsK d p m (i+1) (l++ [snpT (slotB (plook d p (2+(i / 4:Nat))).1 i)]) else ([],14)
def snaps (d:Disk) (p:Plan):List Snp×Int:=snapsK d p 8 0 []
def setsnap (d:Disk) (p:Plan) (i:Int) (s:Snp):Plan×Int:=
 if i<0∨8≤i then (p,10) else if (snpB s).2=false then (p,25) else zb8 d p (2+i / 4) (i % 4*16) (snpB s).1
theorem zdK {s:Txt} (h:zar s=true):(nameS s).1.length=8∧(nameS s).2=0∧(nameS s).1=s++List.replicate (8 - s.length) 0:=by
 have h8:s.length≤8:=by
  unfold zar at h
  simp only [Bool.and_eq_true,decide_eq_true_eq] at h
  exact h.2.2
 have e:nameS s=(s++List.replicate (8 - s.length) 0,0):=by
  rw [nameS,if_pos h,padS,if_neg (by omega)]
  congr 3
  omega
 rw [e]
 refine ⟨?_,rfl,rfl⟩
 rw [List.length_append,List.length_replicate]
 omega
theorem zmu (n:Int) (hp:0≤n∧n≤1000000):AC 182 [.d (.int .i64 n)] (.d (.str (List.replicate n.toNat 0))):=by
 obtain ⟨h0,h1⟩:=hp
 refine fbod Tryz.func182 Tryz.ntmps182 (fun base=>?_)
 refine' zc (z8 @zdF @zhx @zjy @if_true.{1})
 ·exact zbc _
 all_goals first|rfl|simp only [zaq]
@[go_sem] noncomputable def zan:Ent Tryz.prog 182:= .m1 (intT .i64) zmu
theorem zrb (s:Txt) (hs:s.length≤9223372036854775807):AC 197 [.d (.str s)] (.tup [.d (.str (nameS s).1),.d (.int .i64 (nameS s).2)]):=by
 refine fbod Tryz.func197 Tryz.ntmps197 (fun base=>?_)
 cases hn:zar s with
 |false=>
  refine' walkW hn (za zN <| za zdG <| zb _)
  rw [nameS,if_neg (by rw [hn];decide)]
 |true=>
  refine' walkW hn (za zN <| za zdG <| zb _)
  rw [nameS,if_pos hn]
@[go_sem] noncomputable def zfn:Ent Tryz.prog 197:= .m1 strT zrb
theorem zgn (s:Txt):((nameS s).2 !=0)= !zar s:=by
 cases h:zar s with
 |true=>rw [(zdK h).2.1];rfl
 |false=>rw [nameS,if_neg (by rw [h];decide)];rfl
theorem zo7 (s:Snp) (hp:0≤s.id∧s.id≤4294967295∧s.name.length≤9223372036854775807):AC 133 [snpA s] (.tup [.d (.str (snpB s).1),.d (.bool (snpB s).2)]):=by
 obtain ⟨h0,h1,hn⟩:=hp
 refine fbod Tryz.func133 Tryz.ntmps133 (fun base=>?_)
 by_cases hz:s.id=0∧s.l1=0∧s.name= []
 ·have hb:(s.id==0&&(s.l1==0&&s.name== []))=true:=by simpa using hz
  refine' walkW hb (za zan <| za zfn <| za zaO <| za zau <| zb _)
  rw [snpB,if_pos hz]
  rfl
 have hb:(s.id==0&&(s.l1==0&&s.name== []))=false:=by rw [Bool.eq_false_iff];simpa using hz
 by_cases hc:s.id=0∨zar s.name=false∨zH s.l1=false
 ·have hb2:(s.id==0|| !zar s.name|| !zH s.l1)=true:=by simpa [or_assoc] using hc
  refine' walkW (zA hb @zgn hb2) (za zan <| za zfn <| za zaO <| za zau <| zb _)
  rw [snpB,if_neg hz,if_pos hc]
 have hb2:(s.id==0|| !zar s.name|| !zH s.l1)=false:=by rw [Bool.eq_false_iff];simpa [or_assoc] using hc
 simp only [not_or,Bool.not_eq_false] at hc
 obtain ⟨hk0,hk1⟩:=hostOk_iff.1 hc.2.2
 have hw:IntKind.u64.wrap s.id=s.id:=zaf h0 (by omega)
 have hw2:IntKind.u64.wrap s.l1=s.l1:=zaf (by omega) (by omega)
 have hp1:=zI s.id.toNat 4
 have hp2:=zI s.l1.toNat 2
 have hp3:=(zdK hc.2.1).1
 refine' walkW (zL hb @zgn hb2 hw hw2 (zp @zhN @ziT)) (za zan <| za zfn <| za zaO <| za zau <| zb _)
 all_goals first|(simp only [List.length_append,List.length_cons,List.length_nil];omega)|skip
 rw [snpB,if_neg hz,if_neg (by simpa using hc)]
@[go_sem] noncomputable def zaB:Ent Tryz.prog 133:= .m1 zfK zo7
theorem zfL (l:Txt):cutZ (l++ [0])=cutZ l:=by simp [cutZ]
theorem zeW (l:Txt) (c:UInt8) (h:c≠0):cutZ (l++ [c])=l++ [c]:=by
 have:(c==0)=false:=by simpa using h
 simp [cutZ,List.dropWhile_cons,this]
theorem zmv (s:Txt) (hs:s.length≤9223372036854775807):AC 183 [.d (.str s)] (.tup [.d (.str (zdg s).1),.d (.int .i64 (zdg s).2)]):=by
 refine fbod Tryz.func183 Tryz.ntmps183 (fun base=>?_)
 by_cases h8:s.length=8
 ·have hb:((s.length:Int) !=8)=false:=by rw [h8];rfl
  have htn:zdg s=if zar (cutZ s) then (cutZ s,0) else ([],19):=by rw [zdg,if_neg (fun h=>h h8)]
  refine' walkW hb (za zN <| zb _)
  refine zk (fun q: { n:Nat // n≤s.length∧cutZ s=cutZ (s.take n) } =>⟨[(0,true,.d (.str s)),(4,true,.d (.int .i64 q.1))],[],some []⟩) (fun q=>q.1) ⟨s.length,Nat.le_refl _,by rw [List.take_length]⟩ le0 (fun q=>?_)
  obtain ⟨n,hn,hf⟩:=q
  simp only at hn hf ⊢
  cases n with
  |zero=>
   have hg:decide ((0:Int)<((0:Nat):Int))=false:=rfl
   have hnn:zar []=false:=by decide
   refine' walkW (zp hg hnn) (za zN <| zb _)
   rw [htn,hf]
   rfl
  | succ n=>
   have hg:decide ((0:Int)<((n+1:Nat):Int))=true:=decide_eq_true (by omega)
   have hw:IntKind.i64.wrap (((n+1:Nat):Int) - 1)=(n:Int):=by rw [ze (by omega) (by omega)];omega
   obtain ⟨c,hq⟩:=zam (l:=s) (i:=n) (by omega)
   have hget:List.getD s n 0=c:=by rw [List.getD_eq_getElem?_getD,hq];rfl
   have htk:=za9 hq
   by_cases h0:c=0
   ·have hz:((c.toNat:Int)==0)=true:=by rw [h0];rfl
    (have tk:=za zN <| zb Tryz.prog);repeat' (first|((first|(refine sa ?_;intro K hK)|refine sb ?_);simp only [go_sem,aeq,aeq.aeqF,simprocAttr,hg,hw,hget,hz,Tryz.results183])|refine zaD (fun K hK=>?_)|refine sc ?_|refine za5 rfl (fun hc=>?_) (fun hc=>?_)|(refine hK _ ?_;clear hK K)|with_reducible refine And.intro ?_ ?_|omega|assumption|refine fun (hg:(_:Bool)=(_:Bool))=>?_|clear hK K)
    exact ⟨⟨n,by omega,by rw [hf,htk,h0,zfL]⟩,by simp only [AS.le,leT,leH,zj,AsgK,AV.le,AV.leL,AObj.le,inH,idsT,idsH,AV.ids,AV.idsL,AV.idsR,AObj.ids,lk,hget,go_sem,aeq,aeq.aeqF,simprocAttr],by simp⟩
   ·have hz:((c.toNat:Int)==0)=false:=by
     rw [beq_eq_false_iff_ne]
     intro h
     exact h0 (UInt8.toNat_inj.1 (by simpa using h))
    have hcz:cutZ s=s.take (n+1):=by rw [hf,htk,zeW _ _ h0]
    have hl:(s.take (n+1)).length≤9223372036854775807:=by rw [List.length_take];omega
    rw [hcz] at htn
    cases hnm:zar (s.take (n+1)) with
    |false=>
     (have tk:=za zN <| zb Tryz.prog);repeat' (first|((first|(refine sa ?_;intro K hK)|refine sb ?_);simp only [go_sem,aeq,aeq.aeqF,simprocAttr,hg,hw,hget,hz,hnm,Tryz.results183])|refine zaD (fun K hK=>?_)|refine sc ?_|refine za5 rfl (fun hc=>?_) (fun hc=>?_)|(refine hK _ ?_;clear hK K)|with_reducible refine And.intro ?_ ?_|omega|assumption|refine fun (hg:(_:Bool)=(_:Bool))=>?_|clear hK K)
     rw [htn,if_neg (by rw [hnm];decide)]
    |true=>
     (have tk:=za zN <| zb Tryz.prog);repeat' (first|((first|(refine sa ?_;intro K hK)|refine sb ?_);simp only [go_sem,aeq,aeq.aeqF,simprocAttr,hg,hw,hget,hz,hnm,Tryz.results183])|refine zaD (fun K hK=>?_)|refine sc ?_|refine za5 rfl (fun hc=>?_) (fun hc=>?_)|(refine hK _ ?_;clear hK K)|with_reducible refine And.intro ?_ ?_|omega|assumption|refine fun (hg:(_:Bool)=(_:Bool))=>?_|clear hK K)
     rw [htn,if_pos hnm]
 ·have hb:((s.length:Int) !=8)=true:=by simp;omega
  refine' walkW hb (za zN <| zb _)
  rw [zdg,if_pos h8]
@[go_sem] noncomputable def zaY:Ent Tryz.prog 183:= .m1 strT zmv
theorem ziV {d:Disk} {p:Plan} :∀ (m i:Nat) (l:List Snp),(snapsK d p m i l).1.length≤l.length+m
 |0,i,l=>Nat.le_refl _
 | m+1,i,l=>by
  rw [snapsK]
  split
  ·simp
  split
  ·refine Nat.le_trans (ziV m (i+1) _) ?_
   simp only [List.length_append,List.length_singleton]
   omega
  ·simp
theorem zrc {d:Disk} {p:Plan} :(snaps d p).1.length≤8:=by
 exact ziV (d:=d) (p:=p) 8 0 []
def zn5 (s:Snp):Prop:=0≤s.id∧s.id≤4294967295∧s.name.length≤8∧(snpB s).2=true
theorem zo8 (b:Txt):(zdg b).1.length≤8:=by
 unfold zdg
 split
 ·decide
 split
 ·rename_i h
  unfold zar at h
  simp only [Bool.and_eq_true,decide_eq_true_eq] at h
  exact h.2.2
 ·decide
theorem zjM (b:Txt):0≤(snpT b).id∧(snpT b).id≤4294967295∧(snpT b).name.length≤8∧0≤(snpT b).l1∧(snpT b).l1≤65535:=by
 unfold snpT
 split
 ·decide
 ·have h1:=zbJ (l:=b.take 4) (i:=4) (by rw [List.length_take];omega)
  have h2:=zbJ (l:=(b.drop 4).take 2) (i:=2) (by rw [List.length_take];omega)
  have h3:=zo8 (b.drop 8)
  unfold snpR
  simp only
  omega
theorem ziW {d:Disk} {p:Plan} :∀ (m i:Nat) (l:List Snp),(∀s∈l,zn5 s)→∀s∈(snapsK d p m i l).1,zn5 s
 |0,i,l,h=>h
 | m+1,i,l,h=>by
  rw [snapsK]
  split
  ·intro s hs;cases hs
  split
  ·rename_i hok
   refine ziW m (i+1) _ (fun s hs=>?_)
   rcases List.mem_append.1 hs with hs|hs
   ·exact h s hs
   ·rw [List.mem_singleton] at hs
    subst hs
    obtain ⟨h1,h2,h3,_,_⟩:=zjM (slotB (plook d p (2+(i / 4:Nat))).1 i)
    unfold snpOk at hok
    rw [Bool.and_eq_true] at hok
    exact ⟨h1,h2,h3,hok.1⟩
  ·intro s hs;cases hs
theorem zrd {d:Disk} {p:Plan} :∀s∈(snaps d p).1,zn5 s:=ziW 8 0 [] (fun s hs=>by cases hs)
open Go Go.Proofs
structure Ent2 where
 kind:Int
 loc:Int
 deriving DecidableEq
def entA (x:Ent2):AV:= .agg [.d (.int .i64 x.kind),.d (.int .i64 x.loc)]
attribute [go_sem] entA
theorem zu7 (x:Ent2):Ent2.mk x.kind x.loc=x:=rfl
noncomputable def zgL:PT Ent2:=aggT (consL (intT .i64) (consL (intT .i64) nilL)) (fun p=>⟨p.1,p.2.1⟩) (fun x=>(x.kind,x.loc,())) (fun _=>rfl)
attribute [go_sem] zgL
attribute [go_sem] zu7
def entOk (x:Ent2):Bool:=if x.kind=1 then zH x.loc else (x.kind==0||x.kind==2)&&x.loc==0
def zdt (x:Ent2):Txt:= [UInt8.ofNat x.kind.toNat,0,0,0]++putN x.loc.toNat 4
def entOf (s:Txt):Ent2:=⟨((s.getD 0 0).toNat:Int),((takeN ((s.drop 4).take 4):Nat):Int)⟩
def entT (s:Txt):Ent2×Int:=if entOk (entOf s)=false∨zdt (entOf s)≠s then (⟨0,0⟩,14) else (entOf s,0)
def eRef (table i:Int):Bool:= !zH table||decide (i<0)||decide (16≤i)
def eget (d:Disk) (p:Plan) (table i:Int):Ent2×Int:=
 if eRef table i then (⟨0,0⟩,10) else if (plook d p (96+2*table+i / 8)).2≠0 then (⟨0,0⟩,(plook d p (96+2*table+i / 8)).2)
 else entT (((plook d p (96+2*table+i / 8)).1.take (i % 8*8+8).toNat).drop (i % 8*8).toNat)
def eset (d:Disk) (p:Plan) (table i:Int) (x:Ent2):Plan×Int:=
 if eRef table i then (p,10) else if entOk x=false then (p,23) else zb8 d p (96+2*table+i / 8) (i % 8*8) (zdt x)
def zbg (p:Plan) (tt:Int) (f:Plan→Int→Txt×Int):Nat→Int→Plan→Plan×Int
 |0,_,q=>(q,0)
 |m+1,i,q=>if (f q i).2≠0 then (p,(f q i).2) else if (pset q (96+2*tt+i) (f q i).1).2≠0 then (p,(pset q (96+2*tt+i) (f q i).1).2)
  else zbg p tt f m (i+1) (pset q (96+2*tt+i) (f q i).1).1
def z64:Txt:=List.replicate 64 0
theorem ztn:bytesOf [[D.int .u8 0],[D.int .u8 0],[D.int .u8 0],[D.int .u8 0],[D.int .u8 0],[D.int .u8 0],[D.int .u8 0],[D.int .u8 0],[D.int .u8 0],[D.int .u8 0],[D.int .u8 0],[D.int .u8 0],[D.int .u8 0],[D.int .u8 0],[D.int .u8 0],[D.int .u8 0],[D.int .u8 0],[D.int .u8 0],[D.int .u8 0],[D.int .u8 0],[D.int .u8 0],[D.int .u8 0],[D.int .u8 0],[D.int .u8 0],[D.int .u8 0],[D.int .u8 0],[D.int .u8 0],[D.int .u8 0],[D.int .u8 0],[D.int .u8 0],[D.int .u8 0],[D.int .u8 0],[D.int .u8 0],[D.int .u8 0],[D.int .u8 0],[D.int .u8 0],[D.int .u8 0],[D.int .u8 0],[D.int .u8 0],[D.int .u8 0],[D.int .u8 0],[D.int .u8 0],[D.int .u8 0],[D.int .u8 0],[D.int .u8 0],[D.int .u8 0],[D.int .u8 0],[D.int .u8 0],[D.int .u8 0],[D.int .u8 0],[D.int .u8 0],[D.int .u8 0],[D.int .u8 0],[D.int .u8 0],[D.int .u8 0],[D.int .u8 0],[D.int .u8 0],[D.int .u8 0],[D.int .u8 0],[D.int .u8 0],[D.int .u8 0],[D.int .u8 0],[D.int .u8 0],[D.int .u8 0]]=z64:=rfl
def eblank (p:Plan) (table:Int):Plan×Int:=if zH table=false then (p,10) else zbg p table (fun _ _=>(z64,0)) 2 0 p
def ecopy (d:Disk) (p:Plan) (fr tt:Int):Plan×Int:=if zH fr=false∨zH tt=false then (p,10) else zbg p tt (fun q i=>plook d q (96+2*fr+i)) 2 0 p
def elook (d:Disk) (p:Plan) (l1 guest:Int):Ent2×Int:=
 if guest<0∨64≤guest then (⟨0,0⟩,10) else if (eget d p l1 (guest / 16)).2≠0 then (⟨0,0⟩,(eget d p l1 (guest / 16)).2)
 else if (eget d p l1 (guest / 16)).1.kind=2 then (⟨0,0⟩,14) else if (eget d p l1 (guest / 16)).1.kind=0 then (⟨0,0⟩,0)
 else eget d p (eget d p l1 (guest / 16)).1.loc (guest % 16)
theorem zfM {x:Ent2} (h:entOk x=true):(x.kind=0∨x.kind=1∨x.kind=2)∧0≤x.loc∧x.loc<256:=by
 unfold entOk at h
 split at h
 ·rename_i hk
  have:=hostOk_iff.1 h
  omega
 ·simp only [Bool.and_eq_true,Bool.or_eq_true,beq_iff_eq] at h
  omega
theorem zre {d:Disk} {p:Plan} {t i:Int} (h:(eget d p t i).2=0):entOk (eget d p t i).1=true∧zH t=true∧0≤i∧i<16:=by
 unfold eget at h ⊢
 split at h
 ·cases h
 rename_i h0
 rw [if_neg h0]
 split at h
 ·rename_i h1;exact absurd h h1
 rename_i h1
 rw [if_neg h1]
 unfold entT at h ⊢
 split at h
 ·cases h
 rename_i h2
 rw [if_neg h2]
 simp only [not_or,Bool.not_eq_false] at h2
 refine ⟨h2.1,?_⟩
 simp only [eRef,Bool.or_eq_true,decide_eq_true_eq,not_or,Bool.not_eq_true',Bool.not_eq_false] at h0
 exact ⟨h0.1.1,by omega,by omega⟩
theorem zgM (x:Ent2):(zdt x).length=8:=by rw [zdt,List.length_append,zI];rfl
theorem zto {d:Disk} {p:Plan} {t i:Int} {x:Ent2} (h:pfit p=true):pfit (eset d p t i x).1=true:=by
 unfold eset
 split
 ·exact h
 split
 ·exact h
 ·exact zgj h
theorem zgo {p:Plan} {tt:Int} {f:Plan→Int→Txt×Int} (h:pfit p=true):∀ (m:Nat) (i:Int) (q:Plan),pfit q=true→pfit (zbg p tt f m i q).1=true
 |0,_,_,hq=>hq
 |m+1,i,q,hq=>by
  rw [zbg]
  split
  ·exact h
  split
  ·exact h
  ·exact zgo h m _ _ (zcP hq)
theorem DP.eset {d:Disk} {p:Plan} (h:DP d p) (t i:Int) (x:Ent2):DP d (eset d p t i x).1:=⟨h.d,zto h.p⟩
theorem DP.eblank {d:Disk} {p:Plan} (h:DP d p) (t:Int):DP d (eblank p t).1:=⟨h.d,by unfold Aw.eblank;split;exact h.p;exact zgo h.p _ _ _ h.p⟩
theorem DP.ecopy {d:Disk} {p:Plan} (h:DP d p) (a b:Int):DP d (ecopy d p a b).1:=⟨h.d,by unfold Aw.ecopy;split;exact h.p;exact zgo h.p _ _ _ h.p⟩
theorem zjN (k:Int) (_:True):AC 131 [.d (.int .i64 k)] (.d (.bool (zH k))):=by
 refine bod Tryz.func131 Tryz.ntmps131 (fun base=>?_)
 refine' zc fx
 rfl
@[go_sem] noncomputable def zad:Ent Tryz.prog 131:= .m1 (intT .i64) zjN
theorem zmw (x:Ent2) (_:True):AC 226 [entA x] (.d (.bool (entOk x))):=by
 refine bod Tryz.func226 Tryz.ntmps226 (fun base=>?_)
 refine' walkW fx (za zad <| zb _)
 ·have hc:x.kind=1:=by simpa using hc
  rw [entOk,if_pos hc]
 ·have hc:¬x.kind=1:=by simpa using hc
  rw [entOk,if_neg hc]
@[go_sem] noncomputable def zbx:Ent Tryz.prog 226:= .m1 zgL zmw
theorem zjO (t i:Int) (_:True):AC 224 [.d (.int .i64 t),.d (.int .i64 i)] (.d (.bool (eRef t i))):=by
 refine bod Tryz.func224 Tryz.ntmps224 (fun base=>?_)
 refine' walkW fx (za zad <| zb _)
 rfl
@[go_sem] noncomputable def za7:Ent Tryz.prog 224:= .m2 (intT .i64) (intT .i64) zjO
theorem zhP {t i:Int} (h:eRef t i=false):(0≤t∧t<256)∧0≤i∧i<16:=by
 simp only [eRef,Bool.or_eq_false_iff,Bool.not_eq_false',decide_eq_false_iff_not] at h
 exact ⟨hostOk_iff.1 h.1.1,by omega,by omega⟩
theorem zmx (t i:Int) (hp:0≤t∧t<256∧0≤i∧i<16):AC 225 [.d (.int .i64 t),.d (.int .i64 i)] (.tup [.d (.int .i64 (96+2*t+i / 8)),.d (.int .i64 (i % 8*8))]):=by
 obtain ⟨h0,h1,h2,h3⟩:=hp
 refine bod Tryz.func225 Tryz.ntmps225 (fun base=>?_)
 have hw1:IntKind.i64.wrap (i.tdiv 8)=i / 8:=by rw [Int.tdiv_eq_ediv_of_nonneg h2,ze (by omega) (by omega)]
 have hw2:IntKind.i64.wrap (96+2*t+i / 8)=96+2*t+i / 8:=ze (by omega) (by omega)
 have hw3:i.tmod 8=i % 8:=Int.tmod_eq_emod_of_nonneg h2
 have hw4:IntKind.i64.wrap (i % 8*8)=i % 8*8:=ze (by omega) (by omega)
 refine' walkW (z8 hw1 hw2 hw3 hw4) (za zP <| zb _)
@[go_sem] noncomputable def zby:Ent Tryz.prog 225:= .m2 (intT .i64) (intT .i64) zmx
theorem zmy (x:Ent2) (h:entOk x=true):AC 227 [entA x] (.d (.str (zdt x))):=by
 refine fbod Tryz.func227 Tryz.ntmps227 (fun base=>?_)
 obtain ⟨hk,ha0,ha1⟩:=zfM h
 have hw1:IntKind.u8.wrap x.kind=((UInt8.ofNat x.kind.toNat).toNat:Int):=by
  rw [← u8_of,show (x.kind.toNat:Int)=x.kind by omega]
 have hw2:IntKind.u64.wrap x.loc=x.loc:=zaf (by omega) (by omega)
 have hl:=zI x.loc.toNat 4
 have hbo:bytesOf [[D.int .u8 ((UInt8.ofNat x.kind.toNat).toNat:Int)],[D.int .u8 0],[D.int .u8 0],[D.int .u8 0]]= [UInt8.ofNat x.kind.toNat,0,0,0]:=by rcases hk with hh|hh|hh<;>(rw [hh];rfl)
 refine' walkW (zbQ hw1 hw2 @ziT hl hbo) (za zau <| zb _)
 ·rfl
 ·rfl
@[go_sem] noncomputable def zbz:Ent Tryz.prog 227:= .m1 zgL zmy
theorem zrf (s:Txt):0≤(entOf s).kind∧(entOf s).kind≤255∧0≤(entOf s).loc∧(entOf s).loc≤4294967295:=by
 have h1:=zbJ (l:=(s.drop 4).take 4) (i:=4) (by rw [List.length_take];omega)
 have h2:=(s.getD 0 0).toNat_lt
 simp only [entOf]
 omega
theorem zrg (d:Disk) (p:Plan) (t i:Int) (h:DP d p):AC 169 [diskA d,planA p,.d (.int .i64 t),.d (.int .i64 i)] (.tup [entA (eget d p t i).1,.d (.int .i64 (eget d p t i).2)]):=by
 refine fbod Tryz.func169 Tryz.ntmps169 (fun base=>?_)
 have h1:=h.dok
 have h2:=h.pok
 have h3:=h.plen
 by_cases hr:eRef t i=true
 ·refine' walkW hr (za za7 <| za zby <| za zy <| za zS <| za zbx <| za zbz <| za zas <| zb _)
  rw [eget,if_pos hr]
 have hr:eRef t i=false:=by simpa using hr
 obtain ⟨⟨ht0,ht1⟩,hi0,hi1⟩:=zhP hr
 obtain ⟨A,hA⟩:∃A,A=96+2*t+i / 8:=⟨_,rfl⟩
 have hrg0:eget d p t i=if (plook d p A).2≠0 then (⟨0,0⟩,(plook d p A).2) else entT (((plook d p A).1.take (i % 8*8+8).toNat).drop (i % 8*8).toNat):=by
  rw [eget,if_neg (by rw [hr];exact Bool.false_ne_true),hA]
 by_cases he:(plook d p A).2=0
 ·have hb:((plook d p A).2 !=0)=false:=by simpa using he
  have h64:=zcs h he
  rw [if_neg (by simpa using he)] at hrg0
  have hw:IntKind.i64.wrap (i % 8*8+8)=i % 8*8+8:=ze (by omega) (by omega)
  obtain ⟨S,hS⟩:∃S,S=((plook d p A).1.take (i % 8*8+8).toNat).drop (i % 8*8).toNat:=⟨_,rfl⟩
  rw [← hS] at hrg0
  have hSl:S.length=8:=by rw [hS,List.length_drop,List.length_take];omega
  have hrr:=zrf S
  have htk:List.take S.length S=S:=List.take_length
  have ht4:=zcH (s:=S.drop 4) (z:=4) 4 rfl (by omega) (by omega) (by rw [List.length_drop];omega)
  have hwk:IntKind.i64.wrap (entOf S).kind=(entOf S).kind:=ze (by omega) (by omega)
  have hwl:IntKind.i64.wrap (entOf S).loc=(entOf S).loc:=ze (by omega) (by omega)
  simp only [entOf] at hwk hwl hrr
  have hL2:(List.drop 4 S).length≤8:=by rw [List.length_drop];omega
  refine' walkW (zL hr hA.symm hb hw hS.symm (z8 htk ht4 hwk hwl)) (za za7 <| za zby <| za zy <| za zS <| za zbx <| za zbz <| za zas <| zb _)
  all_goals (rw [hrg0,entT];clear ht4 hwk hwl htk;simp_all [entOf];done)
 ·have hb:((plook d p A).2 !=0)=true:=by simpa using he
  rw [if_pos he] at hrg0
  refine' walkW (zA hr hA.symm hb) (za za7 <| za zby <| za zy <| za zS <| za zbx <| za zbz <| za zas <| zb _)
  rw [hrg0]
@[go_sem] noncomputable def zaP:Ent Tryz.prog 169:= .m4 zq zw (intT .i64) (intT .i64) zrg
theorem zrh (d:Disk) (p:Plan) (t i:Int) (x:Ent2) (h:DP d p):AC 173 [diskA d,planA p,.d (.int .i64 t),.d (.int .i64 i),entA x] (.tup [planA (eset d p t i x).1,.d (.int .i64 (eset d p t i x).2)]):=by
 refine fbod Tryz.func173 Tryz.ntmps173 (fun base=>?_)
 have h1:=h.dok
 have h2:=h.puts
 have h3:=h.p
 by_cases hr:eRef t i=true
 ·refine' walkW hr (za za7 <| za zby <| za zy <| za zS <| za zbx <| za zbz <| za zas <| zb _)
  rw [eset,if_pos hr]
 have hr:eRef t i=false:=by simpa using hr
 obtain ⟨⟨ht0,ht1⟩,hi0,hi1⟩:=zhP hr
 by_cases hx:entOk x=true
 ·have hl:=zgM x
  refine' walkW (zA hr hx hl) (za za7 <| za zby <| za zy <| za zS <| za zbx <| za zbz <| za zas <| zb _)
  rw [eset,if_neg (by rw [hr];exact Bool.false_ne_true),if_neg (by rw [hx];exact fun h=>by cases h)]
 ·have hx:entOk x=false:=by simpa using hx
  refine' walkW (zp hr hx) (za za7 <| za zby <| za zy <| za zS <| za zbx <| za zbz <| za zas <| zb _)
  rw [eset,if_neg (by rw [hr];exact Bool.false_ne_true),if_pos hx]
@[go_sem] noncomputable def zd8:Ent Tryz.prog 173:= .m5 zq zw (intT .i64) (intT .i64) zgL zrh
theorem zeX (p:Plan) (tt:Int) (f:Plan→Int→Txt×Int) (i:Nat) (q:Plan) (hi:i<2):zbg p tt f (2 - i) i q=if (f q i).2≠0 then (p,(f q i).2) else if (pset q (96+2*tt+i) (f q i).1).2≠0 then (p,(pset q (96+2*tt+i) (f q i).1).2)
  else zbg p tt f (2 - (i+1)) (i+1:Nat) (pset q (96+2*tt+i) (f q i).1).1:=by
 rw [show 2 - i=(2 - (i+1))+1 by omega,zbg]
 rfl
theorem PlanOk.of {p:Plan} (h:pfit p=true):PlanOk p:=by
 obtain ⟨hl,h24,_⟩:=zay h
 exact ⟨by omega,by omega⟩
theorem zmz (p:Plan) (t:Int) (hp:pfit p=true):AC 268 [planA p,.d (.int .i64 t)] (.tup [planA (eblank p t).1,.d (.int .i64 (eblank p t).2)]):=by
 refine fbod Tryz.func268 Tryz.ntmps268 (fun base=>?_)
 by_cases hk:zH t=true
 ·obtain ⟨ht0,ht1⟩:=hostOk_iff.1 hk
  have hbl:eblank p t=zbg p t (fun _ _=>(z64,0)) 2 0 p:=by rw [eblank,if_neg (by rw [hk];exact fun h=>by cases h)]
  obtain ⟨f,hf⟩:∃f:Plan→Int→Txt×Int,f=fun _ _=>(z64,0):=⟨_,rfl⟩
  rw [← hf] at hbl
  refine' walkW hk (za zad <| za zP <| za zaU <| za zy <| zb _)
  refine zk (fun q: { q:Nat×Plan // q.1≤2∧pfit q.2=true∧eblank p t=zbg p t f (2 - q.1) q.1 q.2 } =>⟨[(1,true,.d (.int .i64 t)),(2,true,.vp 0 0),(4,true,.vp 1 0),(6,true,.vp 2 0),(7,true,.d (.int .i64 q.1.1))],[(2,(.var [.d (.sl 1 (q.1.2.targets.map intD)),.d (.sl 1 (q.1.2.texts.map strD))])),(1,.var [.nils 1,.nils 1]),(0,(.var [.d (.sl 1 (p.targets.map intD)),.d (.sl 1 (p.texts.map strD))]))],some []⟩) (fun q=>2 - q.1.1) ⟨(0,p),Nat.zero_le 2,hp,hbl⟩ le1 (fun q=>?_)
  obtain ⟨⟨i,q⟩,hi,hq,hf2⟩:=q
  simp only at hi hq hf2 ⊢
  have hqo:=PlanOk.of hq
  obtain ⟨hql,hq24,_⟩:=zay hq
  rcases Nat.lt_or_ge i 2 with hlt|hge
  ·have hcmp:decide ((i:Int)<2)=true:=decide_eq_true (by omega)
   have hwi:=zn (i:=i) (by omega)
   have hw1:IntKind.i64.wrap (96+2*t+(i:Int))=96+2*t+i:=ze (by omega) (by omega)
   rw [zeX p t f i q hlt] at hf2
   have hf0:f q i=(z64,0):=by rw [hf]
   simp only [hf0] at hf2
   rw [if_neg (show ¬(0:Int)≠0 by decide)] at hf2
   refine' walkW (zA hcmp hw1 @ztn) (za zad <| za zP <| za zaU <| za zy <| zb _)
   ·rfl
   ·have hc:(pset q (96+2*t+i) z64).2≠0:=by simpa using hc
    rw [hf2,if_pos hc]
   ·have hc:¬(pset q (96+2*t+i) z64).2≠0:=by simpa using hc
    rw [if_neg hc] at hf2
    exact ⟨⟨(i+1,(pset q (96+2*t+i) z64).1),by omega,zcP hq,hf2⟩,lew,by simp;omega⟩
  ·have hcmp:decide ((i:Int)<2)=false:=decide_eq_false (by omega)
   refine' walkW hcmp (za zad <| za zP <| za zaU <| za zy <| zb _)
   rw [hf2,show 2 - i=0 by omega]
   rfl
 ·have hk:zH t=false:=by simpa using hk
  refine' walkW hk (za zad <| za zP <| za zaU <| za zy <| zb _)
  rw [eblank,if_pos hk]
@[go_sem] noncomputable def zfN:Ent Tryz.prog 268:= .m2 zw (intT .i64) zmz
theorem zo9 (d:Disk) (p:Plan) (a t:Int) (h:DP d p):AC 49 [diskA d,planA p,.d (.int .i64 a),.d (.int .i64 t)] (.tup [planA (ecopy d p a t).1,.d (.int .i64 (ecopy d p a t).2)]):=by
 refine fbod Tryz.func49 Tryz.ntmps49 (fun base=>?_)
 have hp:=h.p
 have hdo:=h.dok
 by_cases hk:zH a=false∨zH t=false
 ·have hdec:(!zH a|| !zH t)=true:=by simpa using hk
  refine' walkW hdec (za zad <| za zP <| za zaU <| za zy <| zb _)
  rw [ecopy,if_pos hk]
 ·have hdec:(!zH a|| !zH t)=false:=by simpa using hk
  simp only [not_or,Bool.not_eq_false] at hk
  obtain ⟨ha0,ha1⟩:=hostOk_iff.1 hk.1
  obtain ⟨ht0,ht1⟩:=hostOk_iff.1 hk.2
  have hcp:ecopy d p a t=zbg p t (fun q i=>plook d q (96+2*a+i)) 2 0 p:=by rw [ecopy,if_neg];simp [hk]
  obtain ⟨f,hf⟩:∃f:Plan→Int→Txt×Int,f=fun q i=>plook d q (96+2*a+i):=⟨_,rfl⟩
  rw [← hf] at hcp
  refine' walkW hdec (za zad <| za zP <| za zaU <| za zy <| zb _)
  refine zk (fun q: { q:Nat×Plan // q.1≤2∧pfit q.2=true∧ecopy d p a t=zbg p t f (2 - q.1) q.1 q.2 } =>⟨[(2,true,.d (.int .i64 a)),(3,true,.d (.int .i64 t)),(4,true,.vp 0 0),(5,true,.vp 1 0),(8,true,.vp 2 0),(10,true,.vp 3 0),(11,true,.d (.int .i64 q.1.1))],[(3,(.var [.d (.sl 1 (q.1.2.targets.map intD)),.d (.sl 1 (q.1.2.texts.map strD))])),(2,.var [.nils 1,.nils 1]),(1,(.var [.d (.sl 1 (p.targets.map intD)),.d (.sl 1 (p.texts.map strD))])),(0,(.var [.d (.str d.data),.d (.sl 2 (d.cache.map putD)),.d (.int .i64 d.fuse),.d (.bool d.off),.d (.sl 1 (d.bad.map intD))]))],some []⟩) (fun q=>2 - q.1.1) ⟨(0,p),Nat.zero_le 2,hp,hcp⟩ le1 (fun q=>?_)
  obtain ⟨⟨i,q⟩,hi,hq,hf2⟩:=q
  simp only at hi hq hf2 ⊢
  have hqo:=PlanOk.of hq
  obtain ⟨hql,hq24,_⟩:=zay hq
  rcases Nat.lt_or_ge i 2 with hlt|hge
  ·have hcmp:decide ((i:Int)<2)=true:=decide_eq_true (by omega)
   have hwi:=zn (i:=i) (by omega)
   have hw1:IntKind.i64.wrap (96+2*t+(i:Int))=96+2*t+i:=ze (by omega) (by omega)
   have hw2:IntKind.i64.wrap (96+2*a+(i:Int))=96+2*a+i:=ze (by omega) (by omega)
   rw [zeX p t f i q hlt] at hf2
   have hf0:f q i=plook d q (96+2*a+i):=by rw [hf]
   simp only [hf0] at hf2
   refine' walkW (zA hcmp hw1 hw2) (za zad <| za zP <| za zaU <| za zy <| zb _)
   ·have hc:(plook d q (96+2*a+i)).2≠0:=by simpa using hc
    rw [hf2,if_pos hc]
   ·rename_i c0
    have c0:¬(plook d q (96+2*a+i)).2≠0:=by simpa using c0
    have hc:(pset q (96+2*t+i) (plook d q (96+2*a+i)).1).2≠0:=by simpa using hc
    rw [hf2,if_neg c0,if_pos hc]
   ·rename_i c0
    have c0:¬(plook d q (96+2*a+i)).2≠0:=by simpa using c0
    have hc:¬(pset q (96+2*t+i) (plook d q (96+2*a+i)).1).2≠0:=by simpa using hc
    rw [if_neg c0,if_neg hc] at hf2
    exact ⟨⟨(i+1,(pset q (96+2*t+i) (plook d q (96+2*a+i)).1).1),by omega,zcP hq,hf2⟩,lew,by simp;omega⟩
  ·have hcmp:decide ((i:Int)<2)=false:=decide_eq_false (by omega)
   refine' walkW hcmp (za zad <| za zP <| za zaU <| za zy <| zb _)
   rw [hf2,show 2 - i=0 by omega]
   rfl
@[go_sem] noncomputable def zE:Ent Tryz.prog 49:= .m4 zq zw (intT .i64) (intT .i64) zo9
theorem zpa (d:Disk) (p:Plan) (l1 g:Int) (h:DP d p):AC 96 [diskA d,planA p,.d (.int .i64 l1),.d (.int .i64 g)] (.tup [entA (elook d p l1 g).1,.d (.int .i64 (elook d p l1 g).2)]):=by
 refine fbod Tryz.func96 Tryz.ntmps96 (fun base=>?_)
 by_cases hg:g<0∨64≤g
 ·have hdec:(decide (g<0)||decide (64≤g))=true:=by simpa using hg
  refine' walkW hdec (za zaP <| zb _)
  rw [elook,if_pos hg]
 ·have hdec:(decide (g<0)||decide (64≤g))=false:=by simpa using hg
  have hw1:IntKind.i64.wrap (g.tdiv 16)=g / 16:=by rw [Int.tdiv_eq_ediv_of_nonneg (by omega),ze (by omega) (by omega)]
  have hw2:g.tmod 16=g % 16:=Int.tmod_eq_emod_of_nonneg (by omega)
  refine' walkW (zA hdec hw1 hw2) (za zaP <| zb _)
  all_goals (rw [elook,if_neg hg];simp_all;done)
@[go_sem] noncomputable def zai:Ent Tryz.prog 96:= .m4 zq zw (intT .i64) (intT .i64) zpa
open Go Go.Proofs
theorem zve (k:Int) (_:True):AC 187 [.d (.int .i64 k)] (.d (.bool (!zH k))):=by
 refine bod Tryz.func187 Tryz.ntmps187 (fun base=>?_)
 refine' zc @zbV
@[go_sem] noncomputable def zcz:Ent Tryz.prog 187:= .m1 (intT .i64) zve
theorem zru (x:Ent2) (_:True):AC 250 [entA x] (.d (.bool (entOk x))):=by
 refine bod Tryz.func250 Tryz.ntmps250 (fun base=>?_)
 refine' walkW fx (za zcz <| za zbN <| zb _)
 all_goals simp_all [entOk]
@[go_sem] noncomputable def zck:Ent Tryz.prog 250:= .m1 zgL zru
theorem zrv (t i:Int) (_:True):AC 249 [.d (.int .i64 t),.d (.int .i64 i)] (.tup [.d (.int .i64 (if eRef t i then 0 else 96+2*t+i / 8)),.d (.int .i64 (if eRef t i then 0 else i % 8*8)),.d (.int .i64 (if eRef t i then 10 else 0))]):=by
 refine bod Tryz.func249 Tryz.ntmps249 (fun base=>?_)
 cases hr:eRef t i with
 |true=>
  have hdec:(!zH t||decide (i<0)||decide (16≤i))=true:=hr
  refine' walkW hdec (za zcz <| za zbN <| zb _)
 |false=>
  have hdec:(!zH t||decide (i<0)||decide (16≤i))=false:=hr
  obtain ⟨⟨ht0,ht1⟩,hi0,hi1⟩:=zhP hr
  have hw0:IntKind.i64.wrap (i*8)=i*8:=ze (by omega) (by omega)
  have hw1:IntKind.i64.wrap ((i*8).tdiv 64)=i / 8:=by rw [Int.tdiv_eq_ediv_of_nonneg (by omega),ze (by omega) (by omega)];omega
  have hw2:IntKind.i64.wrap (96+2*t+i / 8)=96+2*t+i / 8:=ze (by omega) (by omega)
  have hw3:(i*8).tmod 64=i % 8*8:=by rw [Int.tmod_eq_emod_of_nonneg (by omega)];omega
  refine' walkW (zbQ hdec hw0 hw1 hw2 hw3) (za zcz <| za zbN <| zb _)
@[go_sem] noncomputable def zcl:Ent Tryz.prog 249:= .m2 (intT .i64) (intT .i64) zrv
theorem zlb:∀k<3,∀l<256,putN (k*72057594037927936+l) 8= [UInt8.ofNat k,0,0,0]++putN l 4:=by decide+kernel
theorem zrw:∀k<3,∀l<256,ibits .or .u64 (ishl .u64 ((k:Nat):Int) 56) ((l:Nat):Int)=((k*72057594037927936+l:Nat):Int):=by decide+kernel
theorem zpm (x:Ent2) (h:entOk x=true):AC 289 [entA x] (.d (.str (zdt x))):=by
 refine fbod Tryz.func289 Tryz.ntmps289 (fun base=>?_)
 obtain ⟨hk,ha0,ha1⟩:=zfM h
 obtain ⟨kind,loc⟩:=x
 simp only at hk ha0 ha1
 obtain ⟨k,rfl⟩:∃k:Nat,kind=k:=⟨kind.toNat,by omega⟩
 obtain ⟨l,rfl⟩:∃l:Nat,loc=l:=⟨loc.toNat,by omega⟩
 have h1:=zlb k (by omega) l (by omega)
 have h2:=zrw k (by omega) l (by omega)
 have hw1:IntKind.u64.wrap (k:Int)=k:=zaf (by omega) (by omega)
 have hw2:IntKind.u64.wrap (l:Int)=l:=zaf (by omega) (by omega)
 refine' walkW (zL hw1 hw2 h2 @zwb natC h1) (za zcr <| zb _)
 rfl
@[go_sem] noncomputable def zbX:Ent Tryz.prog 289:= .m1 zgL zpm
theorem ztB (n:Nat):ishr .u64 (n:Int) 56=((n / 72057594037927936:Nat):Int):=by
 unfold ishr
 rw [show min ((56:Int).toNat) IntKind.u64.bits=56 from rfl]
 rw [Int.fdiv_eq_ediv_of_nonneg _ (by decide)]
 norm_cast
theorem ztC (n:Nat) (hn:n<18446744073709551616):ibits .and .u64 (n:Int) 72057594037927935=((n % 72057594037927936:Nat):Int):=by
 show IntKind.u64.wrap (((BitVec.ofInt 64 (n:Int)&&& BitVec.ofInt 64 72057594037927935).toNat:Nat):Int)=_
 have h2:BitVec.ofInt 64 72057594037927935=BitVec.ofNat 64 72057594037927935:=by decide
 rw [h2,BitVec.ofInt_natCast,BitVec.toNat_and,BitVec.toNat_ofNat,BitVec.toNat_ofNat]
 rw [Nat.mod_eq_of_lt (by omega),show 72057594037927935 % 2 ^ 64=2 ^ 56 - 1 by decide,Nat.and_two_pow_sub_one_eq_mod,zaf (by omega) (by omega)]
theorem zmS (e f g h:UInt8):putN (takeN [e,f,g,h]) 4= [e,f,g,h]:=by
 simp only [takeN,putN,List.foldl,List.nil_append,List.cons_append]
 have:=e.toNat_lt;have:=f.toNat_lt;have:=g.toNat_lt;have:=h.toNat_lt
 have key:∀ (n:Nat) (c:UInt8),n % 256=c.toNat→UInt8.ofNat n=c:=fun n c hh=>by
  apply UInt8.toNat_inj.1
  rw [UInt8.toNat_ofNat']
  simpa using hh
 rw [key _ e (by omega),key _ f (by omega),key _ g (by omega),key _ h (by omega)]
theorem ztD (s:Txt) (hs:s.length=8):entT s=if entOk ⟨((takeN s / 72057594037927936:Nat):Int),((takeN s % 72057594037927936:Nat):Int)⟩=true then (⟨((takeN s / 72057594037927936:Nat):Int),((takeN s % 72057594037927936:Nat):Int)⟩,0) else (⟨0,0⟩,14):=by
 match s,hs with
 | [a,b,c,d,e,f,g,h],_=>
  obtain ⟨L,hL⟩:∃L,L=takeN [e,f,g,h]:=⟨_,rfl⟩
  have hL4:L<4294967296:=by
   have h1:=zbJ (l:= [e,f,g,h]) (i:=4) (by simp)
   have h2:256 ^ 4=4294967296:=by decide
   omega
  have hpt:putN L 4= [e,f,g,h]:=by rw [hL];exact zmS e f g h
  have ha:=a.toNat_lt;have hb:=b.toNat_lt;have hc:=c.toNat_lt;have hd:=d.toNat_lt
  have hn:takeN [a,b,c,d,e,f,g,h]=((a.toNat*256+b.toNat)*256+c.toNat)*256*4294967296+d.toNat*4294967296+L:=by
   rw [hL]
   simp only [takeN,List.foldl]
   omega
  rw [hn]
  have h1:(((a.toNat*256+b.toNat)*256+c.toNat)*256*4294967296+d.toNat*4294967296+L) / 72057594037927936=a.toNat:=by omega
  have h2:(((a.toNat*256+b.toNat)*256+c.toNat)*256*4294967296+d.toNat*4294967296+L) % 72057594037927936=(b.toNat*256+c.toNat)*256*4294967296+d.toNat*4294967296+L:=by omega
  rw [h1,h2]
  have he:entOf [a,b,c,d,e,f,g,h]=⟨(a.toNat:Int),(L:Int)⟩:=by rw [hL];rfl
  have hby:zdt ⟨(a.toNat:Int),(L:Int)⟩= [a,0,0,0,e,f,g,h]:=by
   rw [zdt]
   simp only [Int.toNat_natCast,hpt]
   rw [show UInt8.ofNat a.toNat=a by simp]
   rfl
  rw [entT,he,hby]
  by_cases hz:b=0∧c=0∧d=0
  ·obtain ⟨rfl,rfl,rfl⟩:=hz
   simp only [UInt8.toNat_zero,Nat.zero_mul,Nat.zero_add]
   cases hk:entOk ⟨(a.toNat:Int),(L:Int)⟩<;>simp
  ·have hne:([a,0,0,0,e,f,g,h]:Txt)≠ [a,b,c,d,e,f,g,h]:=by
    intro hh
    simp only [List.cons.injEq,true_and] at hh
    exact hz ⟨hh.1.symm,hh.2.1.symm,hh.2.2.1.symm⟩
   rw [if_pos (.inr hne),if_neg]
   intro hk
   obtain ⟨_,_,hlt⟩:=zfM hk
   simp only at hlt
   apply hz
   have hb0:b.toNat=0∧c.toNat=0∧d.toNat=0:=by omega
   exact ⟨UInt8.toNat_inj.1 hb0.1,UInt8.toNat_inj.1 hb0.2.1,UInt8.toNat_inj.1 hb0.2.2⟩
open Go Go.Proofs
theorem zvf (d:Disk) (p:Plan) (t i:Int) (h:DP d p):AC 204 [diskA d,planA p,.d (.int .i64 t),.d (.int .i64 i)] (.tup [entA (eget d p t i).1,.d (.int .i64 (eget d p t i).2)]):=by
 refine fbod Tryz.func204 Tryz.ntmps204 (fun base=>?_)
 have h1:=h.dok
 have h2:=h.pok
 have h3:=h.plen
 by_cases hr:eRef t i=true
 ·refine' walkW (zp hr @if_true.{1}) (za zcl <| za zX <| za zbH <| za zck <| za zbX <| za zaG <| zb _)
  rw [eget,if_pos hr]
 have hr:eRef t i=false:=by simpa using hr
 have hif:∀ (a b:Int),(if eRef t i=true then a else b)=b:=fun a b=>by rw [if_neg (by rw [hr];exact Bool.false_ne_true)]
 obtain ⟨⟨ht0,ht1⟩,hi0,hi1⟩:=zhP hr
 obtain ⟨A,hA⟩:∃A,A=96+2*t+i / 8:=⟨_,rfl⟩
 have hrg0:eget d p t i=if (plook d p A).2≠0 then (⟨0,0⟩,(plook d p A).2) else entT (((plook d p A).1.take (i % 8*8+8).toNat).drop (i % 8*8).toNat):=by
  rw [eget,if_neg (by rw [hr];exact Bool.false_ne_true),hA]
 by_cases he:(plook d p A).2=0
 ·have hb:((plook d p A).2 !=0)=false:=by simpa using he
  have h64:=zcs h he
  rw [if_neg (by simpa using he)] at hrg0
  obtain ⟨S,hS⟩:∃S,S=((plook d p A).1.drop (i % 8*8).toNat).take 8:=⟨_,rfl⟩
  have hS2:((plook d p A).1.take (i % 8*8+8).toNat).drop (i % 8*8).toNat=S:=by
   rw [List.drop_take,hS,show (i % 8*8+8).toNat - (i % 8*8).toNat=8 by omega]
  rw [hS2] at hrg0
  have hSl:S.length=8:=by rw [hS,List.length_take,List.length_drop];omega
  rw [ztD S hSl] at hrg0
  have hnl:=zbJ (l:=S) (i:=8) (by omega)
  have ht8:=zcH (s:=(plook d p A).1.drop (i % 8*8).toNat) (z:=8) 8 rfl (by omega) (by omega) (by rw [List.length_drop];omega)
  rw [← hS] at ht8
  obtain ⟨n,hn⟩:∃n,n=takeN S:=⟨_,rfl⟩
  rw [← hn] at ht8 hrg0 hnl
  have hsh:=ztB n
  have had:=ztC n (by omega)
  have hw1:IntKind.i64.wrap ((n / 72057594037927936:Nat):Int)=((n / 72057594037927936:Nat):Int):=ze (by omega) (by omega)
  have hw2:IntKind.i64.wrap ((n % 72057594037927936:Nat):Int)=((n % 72057594037927936:Nat):Int):=ze (by omega) (by omega)
  have hld:((plook d p A).1.drop (i % 8*8).toNat).length≤64:=by rw [List.length_drop];omega
  have htk:List.take (plook d p A).1.length (plook d p A).1=(plook d p A).1:=List.take_length
  obtain ⟨x,hx⟩:∃x:Ent2,x=⟨((n / 72057594037927936:Nat):Int),((n % 72057594037927936:Nat):Int)⟩:=⟨_,rfl⟩
  rw [← hx] at hrg0
  have hx1:((n / 72057594037927936:Nat):Int)=x.kind:=by rw [hx]
  have hx2:((n % 72057594037927936:Nat):Int)=x.loc:=by rw [hx]
  rw [hx1] at hw1 hsh
  rw [hx2] at hw2 had
  refine' walkW (zL hif hA.symm hb ht8 htk (z8 hsh had hw1 hw2)) (za zcl <| za zX <| za zbH <| za zck <| za zbX <| za zaG <| zb _)
  all_goals (rw [hrg0];simp_all;done)
 ·have hb:((plook d p A).2 !=0)=true:=by simpa using he
  rw [if_pos he] at hrg0
  refine' walkW (zA hif hA.symm hb) (za zcl <| za zX <| za zbH <| za zck <| za zbX <| za zaG <| zb _)
  rw [hrg0]
@[go_sem] noncomputable def zfR:Ent Tryz.prog 204:= .m4 zq zw (intT .i64) (intT .i64) zvf
theorem zvg (d:Disk) (p:Plan) (t i:Int) (x:Ent2) (h:DP d p):AC 265 [diskA d,planA p,.d (.int .i64 t),.d (.int .i64 i),entA x] (.tup [planA (eset d p t i x).1,.d (.int .i64 (eset d p t i x).2)]):=by
 refine fbod Tryz.func265 Tryz.ntmps265 (fun base=>?_)
 have h1:=h.dok
 have h2:=h.puts
 have h3:=h.p
 by_cases hr:eRef t i=true
 ·refine' walkW (zp hr @if_true.{1}) (za zcl <| za zX <| za zbH <| za zck <| za zbX <| za zaG <| zb _)
  rw [eset,if_pos hr]
 have hr:eRef t i=false:=by simpa using hr
 have hif:∀ (a b:Int),(if eRef t i=true then a else b)=b:=fun a b=>by rw [if_neg (by rw [hr];exact Bool.false_ne_true)]
 obtain ⟨⟨ht0,ht1⟩,hi0,hi1⟩:=zhP hr
 by_cases hx:entOk x=true
 ·have hl:=zgM x
  refine' walkW (zA hif hx hl) (za zcl <| za zX <| za zbH <| za zck <| za zbX <| za zaG <| zb _)
  rw [eset,if_neg (by rw [hr];exact Bool.false_ne_true),if_neg (by rw [hx];exact fun h=>by cases h)]
 ·have hx:entOk x=false:=by simpa using hx
  refine' walkW (zp hif hx) (za zcl <| za zX <| za zbH <| za zck <| za zbX <| za zaG <| zb _)
  rw [eset,if_neg (by rw [hr];exact Bool.false_ne_true),if_pos hx]
@[go_sem] noncomputable def zlc:Ent Tryz.prog 265:= .m5 zq zw (intT .i64) (intT .i64) zgL zvg
theorem ztE (d:Disk) (p:Plan) (l1 g:Int) (h:DP d p):AC 145 [diskA d,planA p,.d (.int .i64 l1),.d (.int .i64 g)] (.tup [entA (elook d p l1 g).1,.d (.int .i64 (elook d p l1 g).2)]):=by
 refine fbod Tryz.func145 Tryz.ntmps145 (fun base=>?_)
 by_cases hg:g<0∨64≤g
 ·have hdec:(decide (g<0)||decide (64≤g))=true:=by simpa using hg
  refine' walkW hdec (za zfR <| zb _)
  rw [elook,if_pos hg]
 ·have hdec:(decide (g<0)||decide (64≤g))=false:=by simpa using hg
  have hw1:IntKind.i64.wrap (g.tdiv 16)=g / 16:=by rw [Int.tdiv_eq_ediv_of_nonneg (by omega),ze (by omega) (by omega)]
  have hw2:g.tmod 16=g % 16:=Int.tmod_eq_emod_of_nonneg (by omega)
  refine' walkW (zA hdec hw1 hw2) (za zfR <| zb _)
  all_goals (rw [elook,if_neg hg];by_cases e1:(eget d p l1 (g / 16)).2=0<;>by_cases e2:(eget d p l1 (g / 16)).1.kind=2<;>by_cases e3:(eget d p l1 (g / 16)).1.kind=0<;>simp_all;done)
@[go_sem] noncomputable def zdP:Ent Tryz.prog 145:= .m4 zq zw (intT .i64) (intT .i64) ztE
end Go.Aw
