/-
  Parts of the proof: RootB, TabA, TabB, TabC, TabD, PointA, PointB, PointC, RootC, RootD, PointD, PointE, PointF, PointG, CowA, CowB, CowC, CowD, CowE, RefcC, CowF, CowG, CowH, CowL, CowM, CowQ, ViewA, ViewB, AuditA (short names; the readable texts lie in the repo, under wip).
-/
import Derived.Test.YtglmbboafmmnpaaGreatDoorPart6
import Derived.Test.YtglmbboafmmnpaaGreatDoorPart4
import Derived.Test.YtglmbboafmmnpaaGreatDoorPart5
import Derived.Test.YtglmbboafmmnpaaGreatDoorPart2
set_option maxRecDepth 100000
set_option maxHeartbeats 2000000
set_option linter.unusedSimpArgs false
set_option linter.unusedVariables false
namespace Go.Aw
open Go Go.Proofs
structure Snp where
 id:Int
 l1:Int
 name:Txt
 deriving DecidableEq
def snpA (s:Snp):AV:= .agg [.d (.int .u32 s.id),.d (.int .i64 s.l1),.d (.str s.name)]
attribute [go_sem] snpA
theorem ztU (s:Snp):Snp.mk s.id s.l1 s.name=s:=rfl
noncomputable def znn:PT Snp:=aggT (consL (intT .u32) (consL (intT .i64) (consL strT nilL))) (fun p=>⟨p.1,p.2.1,p.2.2.1⟩) (fun x=>(x.id,x.l1,x.name,())) (fun _=>rfl)
attribute [go_sem] znn
attribute [go_sem] ztU
def snpD (s:Snp):List D:= [.int .u32 s.id,.int .i64 s.l1,.str s.name]
def z16:Txt:=List.replicate 16 0
def snp0:Snp:=⟨0,0,[]⟩
def snpB (s:Snp):Txt×Bool:=
 if s.id=0∧s.l1=0∧s.name= [] then (z16,true)
 else if s.id=0∨zan s.name=false∨zD s.l1=false then ([],false)
 else (putN s.id.toNat 4++putN s.l1.toNat 2++ [0,0]++(nameS s.name).1,true)
def cutZ (s:Txt):Txt:=(s.reverse.dropWhile (· ==0)).reverse
def zdo (s:Txt):Txt×Int:=if s.length≠8 then ([],11) else if zan (cutZ s) then (cutZ s,0) else ([],19)
def snpR (b:Txt):Snp:=⟨((takeN (b.take 4):Nat):Int),((takeN ((b.drop 4).take 2):Nat):Int),(zdo (b.drop 8)).1⟩
def snpT (b:Txt):Snp:=if b=z16 then snp0 else snpR b
def snpOk (b:Txt):Bool:=(snpB (snpT b)).2&&((snpB (snpT b)).1==b)
def slotB (s:Txt) (i:Nat):Txt:=(s.take ((i % 4+1)*16)).drop (i % 4*16)
def snapsK (d:Disk) (p:Plan):Nat→Nat→List Snp→List Snp×Int
 |0,_,l=>(l,0)
 |m+1,i,l=>if (plook d p (2+(i / 4:Nat))).2≠0 then ([],(plook d p (2+(i / 4:Nat))).2)
  else if snpOk (slotB (plook d p (2+(i / 4:Nat))).1 i) then snapsK d p m (i+1) (l++ [snpT (slotB (plook d p (2+(i / 4:Nat))).1 i)]) else ([],14)
def snaps (d:Disk) (p:Plan):List Snp×Int:=snapsK d p 8 0 []
def setsnap (d:Disk) (p:Plan) (i:Int) (s:Snp):Plan×Int:=
 if i<0∨8≤i then (p,10) else if (snpB s).2=false then (p,25) else zcg d p (2+i / 4) (i % 4*16) (snpB s).1
theorem zd4 {s:Txt} (h:zan s=true):(nameS s).1.length=8∧(nameS s).2=0∧(nameS s).1=s++List.replicate (8 - s.length) 0:=by
 have h8:s.length≤8:=by
  unfold zan at h
  simp only [Bool.and_eq_true,decide_eq_true_eq] at h
  exact h.2.2
 have e:nameS s=(s++List.replicate (8 - s.length) 0,0):=by
  rw [nameS,if_pos h,padS,if_neg (by omega)]
  congr 3
  omega
 rw [e]
 refine ⟨?_,rfl,rfl⟩
 rw [List.length_append,List.length_replicate]
 omega
theorem zl0 (n:Int) (hp:0≤n∧n≤1000000):AC 197 [.d (.int .i64 n)] (.d (.str (List.replicate n.toNat 0))):=by
 obtain ⟨h0,h1⟩:=hp
 refine fbod Tryz.func197 Tryz.ntmps197 (fun base=>?_)
 (have tk:=zb Tryz.prog);repeat' (first|((first|(refine sa ?_;intro K hK)|refine sb ?_);simp only [go_sem,aeq,aeq.aeqF,simprocAttr,zdj,zgP,zi4,if_true,Tryz.results197])|refine zj (fun K hK=>?_)|(refine hK _ ?_;clear hK K)|with_reducible refine And.intro ?_ ?_|omega|assumption|clear hK K)
 ·exact zaJ _
 all_goals first|rfl|simp only [z2]
@[go_sem] noncomputable def zY:Ent Tryz.prog 197:= .m1 (intT .i64) zl0
theorem zqr (s:Txt) (hs:s.length≤9223372036854775807):AC 227 [.d (.str s)] (.tup [.d (.str (nameS s).1),.d (.int .i64 (nameS s).2)]):=by
 refine fbod Tryz.func227 Tryz.ntmps227 (fun base=>?_)
 cases hn:zan s with
 |false=>
  (have tk:=za zC <| za zdl <| zb Tryz.prog;have fx:=hn;repeat' (first|(refine hK _ ?_;clear hK K)|refine wa fun K hK=>?_|refine wb ?_|refine wc ?_ ?_|exact we|refine fun (hc:_=(_:Bool))=>?_|clear hK K))
  rw [nameS,if_neg (by rw [hn];decide)]
 |true=>
  (have tk:=za zC <| za zdl <| zb Tryz.prog;have fx:=hn;repeat' (first|(refine hK _ ?_;clear hK K)|refine wa fun K hK=>?_|refine wb ?_|refine wc ?_ ?_|exact we|refine fun (hc:_=(_:Bool))=>?_|clear hK K))
  rw [nameS,if_pos hn]
@[go_sem] noncomputable def zeI:Ent Tryz.prog 227:= .m1 strT zqr
theorem zio (s:Txt):((nameS s).2 !=0)= !zan s:=by
 cases h:zan s with
 |true=>rw [(zd4 h).2.1];rfl
 |false=>rw [nameS,if_neg (by rw [h];decide)];rfl
theorem zop (s:Snp) (hp:0≤s.id∧s.id≤4294967295∧s.name.length≤9223372036854775807):AC 163 [snpA s] (.tup [.d (.str (snpB s).1),.d (.bool (snpB s).2)]):=by
 obtain ⟨h0,h1,hn⟩:=hp
 refine fbod Tryz.func163 Tryz.ntmps163 (fun base=>?_)
 by_cases hz:s.id=0∧s.l1=0∧s.name= []
 ·have hb:(s.id==0&&(s.l1==0&&s.name== []))=true:=by simpa using hz
  (have tk:=za zY <| za zeI <| za zar <| za z7 <| zb Tryz.prog;have fx:=hb;repeat' (first|(refine hK _ ?_;clear hK K)|refine va fun K hK=>?_|refine vb ?_|refine wc ?_ ?_|exact we|refine fun (hc:_=(_:Bool))=>?_|clear hK K))
  rw [snpB,if_pos hz]
  rfl
 have hb:(s.id==0&&(s.l1==0&&s.name== []))=false:=by rw [Bool.eq_false_iff];simpa using hz
 by_cases hc:s.id=0∨zan s.name=false∨zD s.l1=false
 ·have hb2:(s.id==0|| !zan s.name|| !zD s.l1)=true:=by simpa [or_assoc] using hc
  (have tk:=za zY <| za zeI <| za zar <| za z7 <| zb Tryz.prog;have fx:=(⟨hb,@zio,hb2⟩:_∧_∧_);repeat' (first|(refine hK _ ?_;clear hK K)|refine va fun K hK=>?_|refine vb ?_|refine wc ?_ ?_|exact we|refine fun (hc:_=(_:Bool))=>?_|clear hK K))
  rw [snpB,if_neg hz,if_pos hc]
 have hb2:(s.id==0|| !zan s.name|| !zD s.l1)=false:=by rw [Bool.eq_false_iff];simpa [or_assoc] using hc
 simp only [not_or,Bool.not_eq_false] at hc
 obtain ⟨hk0,hk1⟩:=hostOk_iff.1 hc.2.2
 have hw:IntKind.u64.wrap s.id=s.id:=zR h0 (by omega)
 have hw2:IntKind.u64.wrap s.l1=s.l1:=zR (by omega) (by omega)
 have hp1:=zB s.id.toNat 4
 have hp2:=zB s.l1.toNat 2
 have hp3:=(zd4 hc.2.1).1
 (have tk:=za zY <| za zeI <| za zar <| za z7 <| zb Tryz.prog;have fx:=(⟨hb,@zio,hb2,hw,hw2,@zg4,@zin⟩:_∧_∧_∧_∧_∧_∧_);repeat' (first|(refine hK _ ?_;clear hK K)|refine va fun K hK=>?_|refine vb ?_|refine wc ?_ ?_|exact we|refine fun (hc:_=(_:Bool))=>?_|clear hK K))
 all_goals first|(simp only [List.length_append,List.length_cons,List.length_nil];omega)|skip
 rw [snpB,if_neg hz,if_neg (by simpa using hc)]
@[go_sem] noncomputable def zae:Ent Tryz.prog 163:= .m1 znn zop
theorem zg5 (l:Txt):cutZ (l++ [0])=cutZ l:=by simp [cutZ]
theorem zfB (l:Txt) (c:UInt8) (h:c≠0):cutZ (l++ [c])=l++ [c]:=by
 have:(c==0)=false:=by simpa using h
 simp [cutZ,List.dropWhile_cons,this]
theorem zl1 (s:Txt) (hs:s.length≤9223372036854775807):AC 198 [.d (.str s)] (.tup [.d (.str (zdo s).1),.d (.int .i64 (zdo s).2)]):=by
 refine fbod Tryz.func198 Tryz.ntmps198 (fun base=>?_)
 by_cases h8:s.length=8
 ·have hb:((s.length:Int) !=8)=false:=by rw [h8];rfl
  have htn:zdo s=if zan (cutZ s) then (cutZ s,0) else ([],19):=by rw [zdo,if_neg (fun h=>h h8)]
  (have tk:=za zC <| zb Tryz.prog;have fx:=hb;repeat' (first|(refine hK _ ?_;clear hK K)|refine wa fun K hK=>?_|refine wb ?_|refine wc ?_ ?_|exact we|refine fun (hc:_=(_:Bool))=>?_|clear hK K))
  refine zn (fun q: { n:Nat // n≤s.length∧cutZ s=cutZ (s.take n) } =>⟨[(0,true,.d (.str s)),(4,true,.d (.int .i64 q.1))],[],some []⟩) (fun q=>q.1) ⟨s.length,Nat.le_refl _,by rw [List.take_length]⟩ le0 (fun q=>?_)
  obtain ⟨n,hn,hf⟩:=q
  simp only at hn hf ⊢
  cases n with
  |zero=>
   have hg:decide ((0:Int)<((0:Nat):Int))=false:=rfl
   have hnn:zan []=false:=by decide
   (have tk:=za zC <| zb Tryz.prog;have fx:=(⟨hg,hnn⟩:_∧_);repeat' (first|(refine hK _ ?_;clear hK K)|refine wa fun K hK=>?_|refine wb ?_|refine wc ?_ ?_|exact we|refine fun (hc:_=(_:Bool))=>?_|clear hK K))
   rw [htn,hf]
   rfl
  | succ n=>
   have hg:decide ((0:Int)<((n+1:Nat):Int))=true:=decide_eq_true (by omega)
   have hw:IntKind.i64.wrap (((n+1:Nat):Int) - 1)=(n:Int):=by rw [zh (by omega) (by omega)];omega
   obtain ⟨c,hq⟩:=zal (l:=s) (i:=n) (by omega)
   have hget:List.getD s n 0=c:=by rw [List.getD_eq_getElem?_getD,hq];rfl
   have htk:=zbm hq
   by_cases h0:c=0
   ·have hz:((c.toNat:Int)==0)=true:=by rw [h0];rfl
    (have tk:=za zC <| zb Tryz.prog;have fx:=(⟨hg,hw,hget,hz⟩:_∧_∧_∧_);repeat' (first|(refine hK _ ?_;clear hK K)|refine wa fun K hK=>?_|refine wb ?_|refine wc ?_ ?_|exact we|refine fun (hc:_=(_:Bool))=>?_|clear hK K))
    exact ⟨⟨n,by omega,by rw [hf,htk,h0,zg5]⟩,by simp only [AS.le,leT,leH,zc,AsgK,AV.le,AV.leL,AObj.le,inH,idsT,idsH,AV.ids,AV.idsL,AV.idsR,AObj.ids,lk,hget,go_sem,aeq,aeq.aeqF,simprocAttr],by simp⟩
   ·have hz:((c.toNat:Int)==0)=false:=by
     rw [beq_eq_false_iff_ne]
     intro h
     exact h0 (UInt8.toNat_inj.1 (by simpa using h))
    have hcz:cutZ s=s.take (n+1):=by rw [hf,htk,zfB _ _ h0]
    have hl:(s.take (n+1)).length≤9223372036854775807:=by rw [List.length_take];omega
    rw [hcz] at htn
    cases hnm:zan (s.take (n+1)) with
    |false=>
     (have tk:=za zC <| zb Tryz.prog;have fx:=(⟨hg,hw,hget,hz,hnm⟩:_∧_∧_∧_∧_);repeat' (first|(refine hK _ ?_;clear hK K)|refine wa fun K hK=>?_|refine wb ?_|refine wc ?_ ?_|exact we|refine fun (hc:_=(_:Bool))=>?_|clear hK K))
     rw [htn,if_neg (by rw [hnm];decide)]
    |true=>
     (have tk:=za zC <| zb Tryz.prog;have fx:=(⟨hg,hw,hget,hz,hnm⟩:_∧_∧_∧_∧_);repeat' (first|(refine hK _ ?_;clear hK K)|refine wa fun K hK=>?_|refine wb ?_|refine wc ?_ ?_|exact we|refine fun (hc:_=(_:Bool))=>?_|clear hK K))
     rw [htn,if_pos hnm]
 ·have hb:((s.length:Int) !=8)=true:=by simp;omega
  (have tk:=za zC <| zb Tryz.prog;have fx:=hb;repeat' (first|(refine hK _ ?_;clear hK K)|refine wa fun K hK=>?_|refine wb ?_|refine wc ?_ ?_|exact we|refine fun (hc:_=(_:Bool))=>?_|clear hK K))
  rw [zdo,if_pos h8]
@[go_sem] noncomputable def zay:Ent Tryz.prog 198:= .m1 strT zl1
theorem ziq {d:Disk} {p:Plan} :∀ (m i:Nat) (l:List Snp),(snapsK d p m i l).1.length≤l.length+m
 |0,i,l=>Nat.le_refl _
 | m+1,i,l=>by
  rw [snapsK]
  split
  ·simp
  split
  ·refine Nat.le_trans (ziq m (i+1) _) ?_
   simp only [List.length_append,List.length_singleton]
   omega
  ·simp
theorem ze4 {d:Disk} {p:Plan} :(snaps d p).1.length≤8:=by
 exact ziq (d:=d) (p:=p) 8 0 []
def SnpFit (s:Snp):Prop:=0≤s.id∧s.id≤4294967295∧s.name.length≤8∧(snpB s).2=true
theorem zoq (b:Txt):(zdo b).1.length≤8:=by
 unfold zdo
 split
 ·decide
 split
 ·rename_i h
  unfold zan at h
  simp only [Bool.and_eq_true,decide_eq_true_eq] at h
  exact h.2.2
 ·decide
theorem zjl (b:Txt):0≤(snpT b).id∧(snpT b).id≤4294967295∧(snpT b).name.length≤8∧0≤(snpT b).l1∧(snpT b).l1≤65535:=by
 unfold snpT
 split
 ·decide
 ·have h1:=zbj (l:=b.take 4) (i:=4) (by rw [List.length_take];omega)
  have h2:=zbj (l:=(b.drop 4).take 2) (i:=2) (by rw [List.length_take];omega)
  have h3:=zoq (b.drop 8)
  unfold snpR
  simp only
  omega
theorem zir {d:Disk} {p:Plan} :∀ (m i:Nat) (l:List Snp),(∀s∈l,SnpFit s)→∀s∈(snapsK d p m i l).1,SnpFit s
 |0,i,l,h=>h
 | m+1,i,l,h=>by
  rw [snapsK]
  split
  ·intro s hs;cases hs
  split
  ·rename_i hok
   refine zir m (i+1) _ (fun s hs=>?_)
   rcases List.mem_append.1 hs with hs|hs
   ·exact h s hs
   ·rw [List.mem_singleton] at hs
    subst hs
    obtain ⟨h1,h2,h3,_,_⟩:=zjl (slotB (plook d p (2+(i / 4:Nat))).1 i)
    unfold snpOk at hok
    rw [Bool.and_eq_true] at hok
    exact ⟨h1,h2,h3,hok.1⟩
  ·intro s hs;cases hs
theorem zkP {d:Disk} {p:Plan} :∀s∈(snaps d p).1,SnpFit s:=zir 8 0 [] (fun s hs=>by cases hs)
theorem SnpFit.l1 {s:Snp} (h:SnpFit s):0≤s.l1∧s.l1<256:=by
 obtain ⟨_,_,_,h⟩:=h
 unfold snpB at h
 split at h
 ·rename_i hz;omega
 split at h
 ·cases h
 ·rename_i hc
  simp only [not_or,Bool.not_eq_false] at hc
  exact hostOk_iff.1 hc.2.2
open Go Go.Proofs
structure Ent2 where
 kind:Int
 loc:Int
 deriving DecidableEq
def entA (x:Ent2):AV:= .agg [.d (.int .i64 x.kind),.d (.int .i64 x.loc)]
attribute [go_sem] entA
theorem ztV (x:Ent2):Ent2.mk x.kind x.loc=x:=rfl
noncomputable def zf1:PT Ent2:=aggT (consL (intT .i64) (consL (intT .i64) nilL)) (fun p=>⟨p.1,p.2.1⟩) (fun x=>(x.kind,x.loc,())) (fun _=>rfl)
attribute [go_sem] zf1
attribute [go_sem] ztV
def entOk (x:Ent2):Bool:=if x.kind=1 then zD x.loc else (x.kind==0||x.kind==2)&&x.loc==0
def zc0 (x:Ent2):Txt:= [UInt8.ofNat x.kind.toNat,0,0,0]++putN x.loc.toNat 4
def entOf (s:Txt):Ent2:=⟨((s.getD 0 0).toNat:Int),((takeN ((s.drop 4).take 4):Nat):Int)⟩
def entT (s:Txt):Ent2×Int:=if entOk (entOf s)=false∨zc0 (entOf s)≠s then (⟨0,0⟩,14) else (entOf s,0)
def eRef (table i:Int):Bool:= !zD table||decide (i<0)||decide (16≤i)
def eget (d:Disk) (p:Plan) (table i:Int):Ent2×Int:=
 if eRef table i then (⟨0,0⟩,10) else if (plook d p (96+2*table+i / 8)).2≠0 then (⟨0,0⟩,(plook d p (96+2*table+i / 8)).2)
 else entT (((plook d p (96+2*table+i / 8)).1.take (i % 8*8+8).toNat).drop (i % 8*8).toNat)
def eset (d:Disk) (p:Plan) (table i:Int) (x:Ent2):Plan×Int:=
 if eRef table i then (p,10) else if entOk x=false then (p,23) else zcg d p (96+2*table+i / 8) (i % 8*8) (zc0 x)
def zaS (p:Plan) (tt:Int) (f:Plan→Int→Txt×Int):Nat→Int→Plan→Plan×Int
 |0,_,q=>(q,0)
 |m+1,i,q=>if (f q i).2≠0 then (p,(f q i).2) else if (pset q (96+2*tt+i) (f q i).1).2≠0 then (p,(pset q (96+2*tt+i) (f q i).1).2)
  else zaS p tt f m (i+1) (pset q (96+2*tt+i) (f q i).1).1
def z64:Txt:=List.replicate 64 0
theorem zsq:bytesOf [[D.int .u8 0],[D.int .u8 0],[D.int .u8 0],[D.int .u8 0],[D.int .u8 0],[D.int .u8 0],[D.int .u8 0],[D.int .u8 0],[D.int .u8 0],[D.int .u8 0],[D.int .u8 0],[D.int .u8 0],[D.int .u8 0],[D.int .u8 0],[D.int .u8 0],[D.int .u8 0],[D.int .u8 0],[D.int .u8 0],[D.int .u8 0],[D.int .u8 0],[D.int .u8 0],[D.int .u8 0],[D.int .u8 0],[D.int .u8 0],[D.int .u8 0],[D.int .u8 0],[D.int .u8 0],[D.int .u8 0],[D.int .u8 0],[D.int .u8 0],[D.int .u8 0],[D.int .u8 0],[D.int .u8 0],[D.int .u8 0],[D.int .u8 0],[D.int .u8 0],[D.int .u8 0],[D.int .u8 0],[D.int .u8 0],[D.int .u8 0],[D.int .u8 0],[D.int .u8 0],[D.int .u8 0],[D.int .u8 0],[D.int .u8 0],[D.int .u8 0],[D.int .u8 0],[D.int .u8 0],[D.int .u8 0],[D.int .u8 0],[D.int .u8 0],[D.int .u8 0],[D.int .u8 0],[D.int .u8 0],[D.int .u8 0],[D.int .u8 0],[D.int .u8 0],[D.int .u8 0],[D.int .u8 0],[D.int .u8 0],[D.int .u8 0],[D.int .u8 0],[D.int .u8 0],[D.int .u8 0]]=z64:=rfl
def eblank (p:Plan) (table:Int):Plan×Int:=if zD table=false then (p,10) else zaS p table (fun _ _=>(z64,0)) 2 0 p
def ecopy (d:Disk) (p:Plan) (fr tt:Int):Plan×Int:=if zD fr=false∨zD tt=false then (p,10) else zaS p tt (fun q i=>plook d q (96+2*fr+i)) 2 0 p
def elook (d:Disk) (p:Plan) (l1 guest:Int):Ent2×Int:=
 if guest<0∨64≤guest then (⟨0,0⟩,10) else if (eget d p l1 (guest / 16)).2≠0 then (⟨0,0⟩,(eget d p l1 (guest / 16)).2)
 else if (eget d p l1 (guest / 16)).1.kind=2 then (⟨0,0⟩,14) else if (eget d p l1 (guest / 16)).1.kind=0 then (⟨0,0⟩,0)
 else eget d p (eget d p l1 (guest / 16)).1.loc (guest % 16)
theorem zdp {x:Ent2} (h:entOk x=true):(x.kind=0∨x.kind=1∨x.kind=2)∧0≤x.loc∧x.loc<256:=by
 unfold entOk at h
 split at h
 ·rename_i hk
  have:=hostOk_iff.1 h
  omega
 ·simp only [Bool.and_eq_true,Bool.or_eq_true,beq_iff_eq] at h
  omega
theorem zg6 {d:Disk} {p:Plan} {t i:Int} (h:(eget d p t i).2=0):entOk (eget d p t i).1=true∧zD t=true∧0≤i∧i<16:=by
 unfold eget at h ⊢
 split at h
 ·cases h
 rename_i h0
 rw [if_neg h0]
 split at h
 ·rename_i h1;exact absurd h h1
 rename_i h1
 rw [if_neg h1]
 unfold entT at h ⊢
 split at h
 ·cases h
 rename_i h2
 rw [if_neg h2]
 simp only [not_or,Bool.not_eq_false] at h2
 refine ⟨h2.1,?_⟩
 simp only [eRef,Bool.or_eq_true,decide_eq_true_eq,not_or,Bool.not_eq_true',Bool.not_eq_false] at h0
 exact ⟨h0.1.1,by omega,by omega⟩
theorem zf2 (x:Ent2):(zc0 x).length=8:=by rw [zc0,List.length_append,zB];rfl
theorem zsr {d:Disk} {p:Plan} {t i:Int} {x:Ent2} (h:pfit p=true):pfit (eset d p t i x).1=true:=by
 unfold eset
 split
 ·exact h
 split
 ·exact h
 ·exact zfy h
theorem zfC {p:Plan} {tt:Int} {f:Plan→Int→Txt×Int} (h:pfit p=true):∀ (m:Nat) (i:Int) (q:Plan),pfit q=true→pfit (zaS p tt f m i q).1=true
 |0,_,_,hq=>hq
 |m+1,i,q,hq=>by
  rw [zaS]
  split
  ·exact h
  split
  ·exact h
  ·exact zfC h m _ _ (zcV hq)
theorem DP.eset {d:Disk} {p:Plan} (h:DP d p) (t i:Int) (x:Ent2):DP d (eset d p t i x).1:=⟨h.d,zsr h.p⟩
theorem DP.eblank {d:Disk} {p:Plan} (h:DP d p) (t:Int):DP d (eblank p t).1:=⟨h.d,by unfold Aw.eblank;split;exact h.p;exact zfC h.p _ _ _ h.p⟩
theorem DP.ecopy {d:Disk} {p:Plan} (h:DP d p) (a b:Int):DP d (ecopy d p a b).1:=⟨h.d,by unfold Aw.ecopy;split;exact h.p;exact zfC h.p _ _ _ h.p⟩
theorem zjm (k:Int) (_:True):AC 162 [.d (.int .i64 k)] (.d (.bool (zD k))):=by
 refine bod Tryz.func162 Tryz.ntmps162 (fun base=>?_)
 (repeat' (first|(refine hK _ ?_;clear hK K)|refine wa fun K hK=>?_|refine wb ?_|refine wc ?_ ?_|exact we|refine fun (hc:_=(_:Bool))=>?_|clear hK K))
 rfl
@[go_sem] noncomputable def zP:Ent Tryz.prog 162:= .m1 (intT .i64) zjm
theorem zl2 (x:Ent2) (_:True):AC 201 [entA x] (.d (.bool (entOk x))):=by
 refine bod Tryz.func201 Tryz.ntmps201 (fun base=>?_)
 (have tk:=za zP <| zb Tryz.prog;repeat' (first|(refine hK _ ?_;clear hK K)|refine wa fun K hK=>?_|refine wb ?_|refine wc ?_ ?_|exact we|refine fun (hc:_=(_:Bool))=>?_|clear hK K))
 ·have hc:x.kind=1:=by simpa using hc
  rw [entOk,if_pos hc]
 ·have hc:¬x.kind=1:=by simpa using hc
  rw [entOk,if_neg hc]
@[go_sem] noncomputable def za3:Ent Tryz.prog 201:= .m1 zf1 zl2
theorem zjn (t i:Int) (_:True):AC 199 [.d (.int .i64 t),.d (.int .i64 i)] (.d (.bool (eRef t i))):=by
 refine bod Tryz.func199 Tryz.ntmps199 (fun base=>?_)
 (have tk:=za zP <| zb Tryz.prog;repeat' (first|(refine hK _ ?_;clear hK K)|refine wa fun K hK=>?_|refine wb ?_|refine wc ?_ ?_|exact we|refine fun (hc:_=(_:Bool))=>?_|clear hK K))
 rfl
@[go_sem] noncomputable def zaE:Ent Tryz.prog 199:= .m2 (intT .i64) (intT .i64) zjn
theorem zg7 {t i:Int} (h:eRef t i=false):(0≤t∧t<256)∧0≤i∧i<16:=by
 simp only [eRef,Bool.or_eq_false_iff,Bool.not_eq_false',decide_eq_false_iff_not] at h
 exact ⟨hostOk_iff.1 h.1.1,by omega,by omega⟩
theorem zl3 (t i:Int) (hp:0≤t∧t<256∧0≤i∧i<16):AC 200 [.d (.int .i64 t),.d (.int .i64 i)] (.tup [.d (.int .i64 (96+2*t+i / 8)),.d (.int .i64 (i % 8*8))]):=by
 obtain ⟨h0,h1,h2,h3⟩:=hp
 refine bod Tryz.func200 Tryz.ntmps200 (fun base=>?_)
 have hw1:IntKind.i64.wrap (i.tdiv 8)=i / 8:=by rw [Int.tdiv_eq_ediv_of_nonneg h2,zh (by omega) (by omega)]
 have hw2:IntKind.i64.wrap (96+2*t+i / 8)=96+2*t+i / 8:=zh (by omega) (by omega)
 have hw3:i.tmod 8=i % 8:=Int.tmod_eq_emod_of_nonneg h2
 have hw4:IntKind.i64.wrap (i % 8*8)=i % 8*8:=zh (by omega) (by omega)
 (have tk:=za zbg <| zb Tryz.prog;have fx:=(⟨hw1,hw2,hw3,hw4⟩:_∧_∧_∧_);repeat' (first|(refine hK _ ?_;clear hK K)|refine wa fun K hK=>?_|refine wb ?_|refine wc ?_ ?_|exact we|clear hK K))
@[go_sem] noncomputable def za4:Ent Tryz.prog 200:= .m2 (intT .i64) (intT .i64) zl3
theorem zl4 (x:Ent2) (h:entOk x=true):AC 202 [entA x] (.d (.str (zc0 x))):=by
 refine fbod Tryz.func202 Tryz.ntmps202 (fun base=>?_)
 obtain ⟨hk,ha0,ha1⟩:=zdp h
 have hw1:IntKind.u8.wrap x.kind=((UInt8.ofNat x.kind.toNat).toNat:Int):=by
  rw [← u8_of,show (x.kind.toNat:Int)=x.kind by omega]
 have hw2:IntKind.u64.wrap x.loc=x.loc:=zR (by omega) (by omega)
 have hl:=zB x.loc.toNat 4
 have hbo:bytesOf [[D.int .u8 ((UInt8.ofNat x.kind.toNat).toNat:Int)],[D.int .u8 0],[D.int .u8 0],[D.int .u8 0]]= [UInt8.ofNat x.kind.toNat,0,0,0]:=by rcases hk with hh|hh|hh<;>(rw [hh];rfl)
 (have tk:=za z7 <| zb Tryz.prog;have fx:=(⟨hw1,hw2,@zin,hl,hbo⟩:_∧_∧_∧_∧_);repeat' (first|(refine hK _ ?_;clear hK K)|refine va fun K hK=>?_|refine vb ?_|refine wc ?_ ?_|exact we|clear hK K))
 ·rfl
 ·rfl
@[go_sem] noncomputable def za5:Ent Tryz.prog 202:= .m1 zf1 zl4
theorem zqs (s:Txt):0≤(entOf s).kind∧(entOf s).kind≤255∧0≤(entOf s).loc∧(entOf s).loc≤4294967295:=by
 have h1:=zbj (l:=(s.drop 4).take 4) (i:=4) (by rw [List.length_take];omega)
 have h2:=(s.getD 0 0).toNat_lt
 simp only [entOf]
 omega
theorem zqt (d:Disk) (p:Plan) (t i:Int) (h:DP d p):AC 128 [diskA d,planA p,.d (.int .i64 t),.d (.int .i64 i)] (.tup [entA (eget d p t i).1,.d (.int .i64 (eget d p t i).2)]):=by
 refine fbod Tryz.func128 Tryz.ntmps128 (fun base=>?_)
 have h1:=h.dok
 have h2:=h.pok
 have h3:=h.plen
 by_cases hr:eRef t i=true
 ·(have tk:=za zaE <| za za4 <| za zr <| za zE <| za za3 <| za za5 <| za z6 <| zb Tryz.prog;have fx:=hr;(repeat' (first|(refine hK _ ?_;clear hK K)|refine va fun K hK=>?_|refine vb ?_|refine wc ?_ ?_|exact we|refine fun (hc:_=(_:Bool))=>?_|clear hK K));all_goals clear fx)
  rw [eget,if_pos hr]
 have hr:eRef t i=false:=by simpa using hr
 obtain ⟨⟨ht0,ht1⟩,hi0,hi1⟩:=zg7 hr
 obtain ⟨A,hA⟩:∃A,A=96+2*t+i / 8:=⟨_,rfl⟩
 have hrg0:eget d p t i=if (plook d p A).2≠0 then (⟨0,0⟩,(plook d p A).2) else entT (((plook d p A).1.take (i % 8*8+8).toNat).drop (i % 8*8).toNat):=by
  rw [eget,if_neg (by rw [hr];exact Bool.false_ne_true),hA]
 by_cases he:(plook d p A).2=0
 ·have hb:((plook d p A).2 !=0)=false:=by simpa using he
  have h64:=zb0 h he
  rw [if_neg (by simpa using he)] at hrg0
  have hw:IntKind.i64.wrap (i % 8*8+8)=i % 8*8+8:=zh (by omega) (by omega)
  obtain ⟨S,hS⟩:∃S,S=((plook d p A).1.take (i % 8*8+8).toNat).drop (i % 8*8).toNat:=⟨_,rfl⟩
  rw [← hS] at hrg0
  have hSl:S.length=8:=by rw [hS,List.length_drop,List.length_take];omega
  have hrr:=zqs S
  have htk:List.take S.length S=S:=List.take_length
  have ht4:=zcd (s:=S.drop 4) (z:=4) 4 rfl (by omega) (by omega) (by rw [List.length_drop];omega)
  have hwk:IntKind.i64.wrap (entOf S).kind=(entOf S).kind:=zh (by omega) (by omega)
  have hwl:IntKind.i64.wrap (entOf S).loc=(entOf S).loc:=zh (by omega) (by omega)
  simp only [entOf] at hwk hwl hrr
  have hL2:(List.drop 4 S).length≤8:=by rw [List.length_drop];omega
  (have tk:=za zaE <| za za4 <| za zr <| za zE <| za za3 <| za za5 <| za z6 <| zb Tryz.prog;have fx:=(⟨hr,hA.symm,hb,hw,hS.symm,htk,ht4,hwk,hwl⟩:_∧_∧_∧_∧_∧_∧_∧_∧_);(repeat' (first|(refine hK _ ?_;clear hK K)|refine va fun K hK=>?_|refine vb ?_|refine wc ?_ ?_|exact we|refine fun (hc:_=(_:Bool))=>?_|clear hK K));all_goals clear fx)
  all_goals (rw [hrg0,entT];clear ht4 hwk hwl htk;simp_all [entOf];done)
 ·have hb:((plook d p A).2 !=0)=true:=by simpa using he
  rw [if_pos he] at hrg0
  (have tk:=za zaE <| za za4 <| za zr <| za zE <| za za3 <| za za5 <| za z6 <| zb Tryz.prog;have fx:=(⟨hr,hA.symm,hb⟩:_∧_∧_);repeat' (first|(refine hK _ ?_;clear hK K)|refine va fun K hK=>?_|refine vb ?_|refine wc ?_ ?_|exact we|refine fun (hc:_=(_:Bool))=>?_|clear hK K))
  rw [hrg0]
@[go_sem] noncomputable def zas:Ent Tryz.prog 128:= .m4 zp zt (intT .i64) (intT .i64) zqt
theorem zqu (d:Disk) (p:Plan) (t i:Int) (x:Ent2) (h:DP d p):AC 188 [diskA d,planA p,.d (.int .i64 t),.d (.int .i64 i),entA x] (.tup [planA (eset d p t i x).1,.d (.int .i64 (eset d p t i x).2)]):=by
 refine fbod Tryz.func188 Tryz.ntmps188 (fun base=>?_)
 have h1:=h.dok
 have h2:=h.puts
 have h3:=h.p
 by_cases hr:eRef t i=true
 ·(have tk:=za zaE <| za za4 <| za zr <| za zE <| za za3 <| za za5 <| za z6 <| zb Tryz.prog;have fx:=hr;repeat' (first|(refine hK _ ?_;clear hK K)|refine va fun K hK=>?_|refine vb ?_|refine wc ?_ ?_|exact we|refine fun (hc:_=(_:Bool))=>?_|clear hK K))
  rw [eset,if_pos hr]
 have hr:eRef t i=false:=by simpa using hr
 obtain ⟨⟨ht0,ht1⟩,hi0,hi1⟩:=zg7 hr
 by_cases hx:entOk x=true
 ·have hl:=zf2 x
  (have tk:=za zaE <| za za4 <| za zr <| za zE <| za za3 <| za za5 <| za z6 <| zb Tryz.prog;have fx:=(⟨hr,hx,hl⟩:_∧_∧_);repeat' (first|(refine hK _ ?_;clear hK K)|refine va fun K hK=>?_|refine vb ?_|refine wc ?_ ?_|exact we|refine fun (hc:_=(_:Bool))=>?_|clear hK K))
  rw [eset,if_neg (by rw [hr];exact Bool.false_ne_true),if_neg (by rw [hx];exact fun h=>by cases h)]
 ·have hx:entOk x=false:=by simpa using hx
  (have tk:=za zaE <| za za4 <| za zr <| za zE <| za za3 <| za za5 <| za z6 <| zb Tryz.prog;have fx:=(⟨hr,hx⟩:_∧_);repeat' (first|(refine hK _ ?_;clear hK K)|refine va fun K hK=>?_|refine vb ?_|refine wc ?_ ?_|exact we|refine fun (hc:_=(_:Bool))=>?_|clear hK K))
  rw [eset,if_neg (by rw [hr];exact Bool.false_ne_true),if_pos hx]
@[go_sem] noncomputable def zdH:Ent Tryz.prog 188:= .m5 zp zt (intT .i64) (intT .i64) zf1 zqu
theorem zem (p:Plan) (tt:Int) (f:Plan→Int→Txt×Int) (i:Nat) (q:Plan) (hi:i<2):zaS p tt f (2 - i) i q=if (f q i).2≠0 then (p,(f q i).2) else if (pset q (96+2*tt+i) (f q i).1).2≠0 then (p,(pset q (96+2*tt+i) (f q i).1).2)
  else zaS p tt f (2 - (i+1)) (i+1:Nat) (pset q (96+2*tt+i) (f q i).1).1:=by
 rw [show 2 - i=(2 - (i+1))+1 by omega,zaS]
 rfl
theorem PlanOk.of {p:Plan} (h:pfit p=true):PlanOk p:=by
 obtain ⟨hl,h24,_⟩:=zag h
 exact ⟨by omega,by omega⟩
theorem zl5 (p:Plan) (t:Int) (hp:pfit p=true):AC 287 [planA p,.d (.int .i64 t)] (.tup [planA (eblank p t).1,.d (.int .i64 (eblank p t).2)]):=by
 refine fbod Tryz.func287 Tryz.ntmps287 (fun base=>?_)
 by_cases hk:zD t=true
 ·obtain ⟨ht0,ht1⟩:=hostOk_iff.1 hk
  have hbl:eblank p t=zaS p t (fun _ _=>(z64,0)) 2 0 p:=by rw [eblank,if_neg (by rw [hk];exact fun h=>by cases h)]
  obtain ⟨f,hf⟩:∃f:Plan→Int→Txt×Int,f=fun _ _=>(z64,0):=⟨_,rfl⟩
  rw [← hf] at hbl
  (have tk:=za zP <| za zbg <| za zau <| za zr <| zb Tryz.prog;have fx:=hk;repeat' (first|(refine hK _ ?_;clear hK K)|refine va fun K hK=>?_|refine vb ?_|refine wc ?_ ?_|exact we|refine fun (hc:_=(_:Bool))=>?_|clear hK K))
  refine zn (fun q: { q:Nat×Plan // q.1≤2∧pfit q.2=true∧eblank p t=zaS p t f (2 - q.1) q.1 q.2 } =>⟨[(1,true,.d (.int .i64 t)),(2,true,.vp 0 0),(4,true,.vp 1 0),(6,true,.vp 2 0),(7,true,.d (.int .i64 q.1.1))],[(2,(.var [.d (.sl 1 (q.1.2.targets.map intD)),.d (.sl 1 (q.1.2.texts.map strD))])),(1,.var [.nils 1,.nils 1]),(0,(.var [.d (.sl 1 (p.targets.map intD)),.d (.sl 1 (p.texts.map strD))]))],some []⟩) (fun q=>2 - q.1.1) ⟨(0,p),Nat.zero_le 2,hp,hbl⟩ le1 (fun q=>?_)
  obtain ⟨⟨i,q⟩,hi,hq,hf2⟩:=q
  simp only at hi hq hf2 ⊢
  have hqo:=PlanOk.of hq
  obtain ⟨hql,hq24,_⟩:=zag hq
  rcases Nat.lt_or_ge i 2 with hlt|hge
  ·have hcmp:decide ((i:Int)<2)=true:=decide_eq_true (by omega)
   have hwi:=zq (i:=i) (by omega)
   have hw1:IntKind.i64.wrap (96+2*t+(i:Int))=96+2*t+i:=zh (by omega) (by omega)
   rw [zem p t f i q hlt] at hf2
   have hf0:f q i=(z64,0):=by rw [hf]
   simp only [hf0] at hf2
   rw [if_neg (show ¬(0:Int)≠0 by decide)] at hf2
   (have tk:=za zP <| za zbg <| za zau <| za zr <| zb Tryz.prog;have fx:=(⟨hcmp,hw1,@zsq⟩:_∧_∧_);repeat' (first|(refine hK _ ?_;clear hK K)|refine va fun K hK=>?_|refine vb ?_|refine wc ?_ ?_|exact we|refine fun (hc:_=(_:Bool))=>?_|clear hK K))
   ·rfl
   ·have hc:(pset q (96+2*t+i) z64).2≠0:=by simpa using hc
    rw [hf2,if_pos hc]
   ·have hc:¬(pset q (96+2*t+i) z64).2≠0:=by simpa using hc
    rw [if_neg hc] at hf2
    exact ⟨⟨(i+1,(pset q (96+2*t+i) z64).1),by omega,zcV hq,hf2⟩,lew,by simp;omega⟩
  ·have hcmp:decide ((i:Int)<2)=false:=decide_eq_false (by omega)
   (have tk:=za zP <| za zbg <| za zau <| za zr <| zb Tryz.prog;have fx:=hcmp;repeat' (first|(refine hK _ ?_;clear hK K)|refine va fun K hK=>?_|refine vb ?_|refine wc ?_ ?_|exact we|refine fun (hc:_=(_:Bool))=>?_|clear hK K))
   rw [hf2,show 2 - i=0 by omega]
   rfl
 ·have hk:zD t=false:=by simpa using hk
  (have tk:=za zP <| za zbg <| za zau <| za zr <| zb Tryz.prog;have fx:=hk;repeat' (first|(refine hK _ ?_;clear hK K)|refine va fun K hK=>?_|refine vb ?_|refine wc ?_ ?_|exact we|refine fun (hc:_=(_:Bool))=>?_|clear hK K))
  rw [eblank,if_pos hk]
@[go_sem] noncomputable def ze5:Ent Tryz.prog 287:= .m2 zt (intT .i64) zl5
theorem zor (d:Disk) (p:Plan) (a t:Int) (h:DP d p):AC 85 [diskA d,planA p,.d (.int .i64 a),.d (.int .i64 t)] (.tup [planA (ecopy d p a t).1,.d (.int .i64 (ecopy d p a t).2)]):=by
 refine fbod Tryz.func85 Tryz.ntmps85 (fun base=>?_)
 have hp:=h.p
 have hdo:=h.dok
 by_cases hk:zD a=false∨zD t=false
 ·have hdec:(!zD a|| !zD t)=true:=by simpa using hk
  (have tk:=za zP <| za zbg <| za zau <| za zr <| zb Tryz.prog;have fx:=hdec;repeat' (first|(refine hK _ ?_;clear hK K)|refine va fun K hK=>?_|refine vb ?_|refine wc ?_ ?_|exact we|refine fun (hc:_=(_:Bool))=>?_|clear hK K))
  rw [ecopy,if_pos hk]
 ·have hdec:(!zD a|| !zD t)=false:=by simpa using hk
  simp only [not_or,Bool.not_eq_false] at hk
  obtain ⟨ha0,ha1⟩:=hostOk_iff.1 hk.1
  obtain ⟨ht0,ht1⟩:=hostOk_iff.1 hk.2
  have hcp:ecopy d p a t=zaS p t (fun q i=>plook d q (96+2*a+i)) 2 0 p:=by rw [ecopy,if_neg];simp [hk]
  obtain ⟨f,hf⟩:∃f:Plan→Int→Txt×Int,f=fun q i=>plook d q (96+2*a+i):=⟨_,rfl⟩
  rw [← hf] at hcp
  (have tk:=za zP <| za zbg <| za zau <| za zr <| zb Tryz.prog;have fx:=hdec;repeat' (first|(refine hK _ ?_;clear hK K)|refine va fun K hK=>?_|refine vb ?_|refine wc ?_ ?_|exact we|refine fun (hc:_=(_:Bool))=>?_|clear hK K))
  refine zn (fun q: { q:Nat×Plan // q.1≤2∧pfit q.2=true∧ecopy d p a t=zaS p t f (2 - q.1) q.1 q.2 } =>⟨[(2,true,.d (.int .i64 a)),(3,true,.d (.int .i64 t)),(4,true,.vp 0 0),(5,true,.vp 1 0),(8,true,.vp 2 0),(10,true,.vp 3 0),(11,true,.d (.int .i64 q.1.1))],[(3,(.var [.d (.sl 1 (q.1.2.targets.map intD)),.d (.sl 1 (q.1.2.texts.map strD))])),(2,.var [.nils 1,.nils 1]),(1,(.var [.d (.sl 1 (p.targets.map intD)),.d (.sl 1 (p.texts.map strD))])),(0,(.var [.d (.str d.data),.d (.sl 2 (d.cache.map putD)),.d (.int .i64 d.fuse),.d (.bool d.off),.d (.sl 1 (d.bad.map intD))]))],some []⟩) (fun q=>2 - q.1.1) ⟨(0,p),Nat.zero_le 2,hp,hcp⟩ le1 (fun q=>?_)
  obtain ⟨⟨i,q⟩,hi,hq,hf2⟩:=q
  simp only at hi hq hf2 ⊢
  have hqo:=PlanOk.of hq
  obtain ⟨hql,hq24,_⟩:=zag hq
  rcases Nat.lt_or_ge i 2 with hlt|hge
  ·have hcmp:decide ((i:Int)<2)=true:=decide_eq_true (by omega)
   have hwi:=zq (i:=i) (by omega)
   have hw1:IntKind.i64.wrap (96+2*t+(i:Int))=96+2*t+i:=zh (by omega) (by omega)
   have hw2:IntKind.i64.wrap (96+2*a+(i:Int))=96+2*a+i:=zh (by omega) (by omega)
   rw [zem p t f i q hlt] at hf2
   have hf0:f q i=plook d q (96+2*a+i):=by rw [hf]
   simp only [hf0] at hf2
   (have tk:=za zP <| za zbg <| za zau <| za zr <| zb Tryz.prog;have fx:=(⟨hcmp,hw1,hw2⟩:_∧_∧_);repeat' (first|(refine hK _ ?_;clear hK K)|refine va fun K hK=>?_|refine vb ?_|refine wc ?_ ?_|exact we|refine fun (hc:_=(_:Bool))=>?_|clear hK K))
   ·have hc:(plook d q (96+2*a+i)).2≠0:=by simpa using hc
    rw [hf2,if_pos hc]
   ·rename_i c0
    have c0:¬(plook d q (96+2*a+i)).2≠0:=by simpa using c0
    have hc:(pset q (96+2*t+i) (plook d q (96+2*a+i)).1).2≠0:=by simpa using hc
    rw [hf2,if_neg c0,if_pos hc]
   ·rename_i c0
    have c0:¬(plook d q (96+2*a+i)).2≠0:=by simpa using c0
    have hc:¬(pset q (96+2*t+i) (plook d q (96+2*a+i)).1).2≠0:=by simpa using hc
    rw [if_neg c0,if_neg hc] at hf2
    exact ⟨⟨(i+1,(pset q (96+2*t+i) (plook d q (96+2*a+i)).1).1),by omega,zcV hq,hf2⟩,lew,by simp;omega⟩
  ·have hcmp:decide ((i:Int)<2)=false:=decide_eq_false (by omega)
   (have tk:=za zP <| za zbg <| za zau <| za zr <| zb Tryz.prog;have fx:=hcmp;repeat' (first|(refine hK _ ?_;clear hK K)|refine va fun K hK=>?_|refine vb ?_|refine wc ?_ ?_|exact we|refine fun (hc:_=(_:Bool))=>?_|clear hK K))
   rw [hf2,show 2 - i=0 by omega]
   rfl
@[go_sem] noncomputable def zaG:Ent Tryz.prog 85:= .m4 zp zt (intT .i64) (intT .i64) zor
theorem zos (d:Disk) (p:Plan) (l1 g:Int) (h:DP d p):AC 65 [diskA d,planA p,.d (.int .i64 l1),.d (.int .i64 g)] (.tup [entA (elook d p l1 g).1,.d (.int .i64 (elook d p l1 g).2)]):=by
 refine fbod Tryz.func65 Tryz.ntmps65 (fun base=>?_)
 by_cases hg:g<0∨64≤g
 ·have hdec:(decide (g<0)||decide (64≤g))=true:=by simpa using hg
  (have tk:=za zas <| zb Tryz.prog;have fx:=hdec;(repeat' (first|(refine hK _ ?_;clear hK K)|refine va fun K hK=>?_|refine vb ?_|refine wc ?_ ?_|exact we|refine fun (hc:_=(_:Bool))=>?_|clear hK K));all_goals clear fx)
  rw [elook,if_pos hg]
 ·have hdec:(decide (g<0)||decide (64≤g))=false:=by simpa using hg
  have hw1:IntKind.i64.wrap (g.tdiv 16)=g / 16:=by rw [Int.tdiv_eq_ediv_of_nonneg (by omega),zh (by omega) (by omega)]
  have hw2:g.tmod 16=g % 16:=Int.tmod_eq_emod_of_nonneg (by omega)
  (have tk:=za zas <| zb Tryz.prog;have fx:=(⟨hdec,hw1,hw2⟩:_∧_∧_);(repeat' (first|(refine hK _ ?_;clear hK K)|refine va fun K hK=>?_|refine vb ?_|refine wc ?_ ?_|exact we|refine fun (hc:_=(_:Bool))=>?_|clear hK K));all_goals clear fx)
  all_goals (rw [elook,if_neg hg];simp_all;done)
@[go_sem] noncomputable def zb5:Ent Tryz.prog 65:= .m4 zp zt (intT .i64) (intT .i64) zos
open Go Go.Proofs
theorem zt1 (k:Int) (_:True):AC 218 [.d (.int .i64 k)] (.d (.bool (!zD k))):=by
 refine bod Tryz.func218 Tryz.ntmps218 (fun base=>?_)
 (have fx:= @zbw;repeat' (first|(refine hK _ ?_;clear hK K)|refine wa fun K hK=>?_|refine wb ?_|refine wc ?_ ?_|exact we|refine fun (hc:_=(_:Bool))=>?_|clear hK K))
@[go_sem] noncomputable def zb7:Ent Tryz.prog 218:= .m1 (intT .i64) zt1
theorem zqG (x:Ent2) (_:True):AC 272 [entA x] (.d (.bool (entOk x))):=by
 refine bod Tryz.func272 Tryz.ntmps272 (fun base=>?_)
 (have tk:=za zb7 <| za zcc <| zb Tryz.prog;repeat' (first|(refine hK _ ?_;clear hK K)|refine wa fun K hK=>?_|refine wb ?_|refine wc ?_ ?_|exact we|refine fun (hc:_=(_:Bool))=>?_|clear hK K))
 all_goals simp_all [entOk]
@[go_sem] noncomputable def zbV:Ent Tryz.prog 272:= .m1 zf1 zqG
theorem zqH (t i:Int) (_:True):AC 271 [.d (.int .i64 t),.d (.int .i64 i)] (.tup [.d (.int .i64 (if eRef t i then 0 else 96+2*t+i / 8)),.d (.int .i64 (if eRef t i then 0 else i % 8*8)),.d (.int .i64 (if eRef t i then 10 else 0))]):=by
 refine bod Tryz.func271 Tryz.ntmps271 (fun base=>?_)
 cases hr:eRef t i with
 |true=>
  have hdec:(!zD t||decide (i<0)||decide (16≤i))=true:=hr
  (have tk:=za zb7 <| za zcc <| zb Tryz.prog;have fx:=hdec;repeat' (first|(refine hK _ ?_;clear hK K)|refine wa fun K hK=>?_|refine wb ?_|refine wc ?_ ?_|exact we|refine fun (hc:_=(_:Bool))=>?_|clear hK K))
 |false=>
  have hdec:(!zD t||decide (i<0)||decide (16≤i))=false:=hr
  obtain ⟨⟨ht0,ht1⟩,hi0,hi1⟩:=zg7 hr
  have hw0:IntKind.i64.wrap (i*8)=i*8:=zh (by omega) (by omega)
  have hw1:IntKind.i64.wrap ((i*8).tdiv 64)=i / 8:=by rw [Int.tdiv_eq_ediv_of_nonneg (by omega),zh (by omega) (by omega)];omega
  have hw2:IntKind.i64.wrap (96+2*t+i / 8)=96+2*t+i / 8:=zh (by omega) (by omega)
  have hw3:(i*8).tmod 64=i % 8*8:=by rw [Int.tmod_eq_emod_of_nonneg (by omega)];omega
  (have tk:=za zb7 <| za zcc <| zb Tryz.prog;have fx:=(⟨hdec,hw0,hw1,hw2,hw3⟩:_∧_∧_∧_∧_);repeat' (first|(refine hK _ ?_;clear hK K)|refine wa fun K hK=>?_|refine wb ?_|refine wc ?_ ?_|exact we|refine fun (hc:_=(_:Bool))=>?_|clear hK K))
@[go_sem] noncomputable def zbW:Ent Tryz.prog 271:= .m2 (intT .i64) (intT .i64) zqH
theorem zkV:∀k<3,∀l<256,putN (k*72057594037927936+l) 8= [UInt8.ofNat k,0,0,0]++putN l 4:=by decide+kernel
theorem zqI:∀k<3,∀l<256,ibits .or .u64 (ishl .u64 ((k:Nat):Int) 56) ((l:Nat):Int)=((k*72057594037927936+l:Nat):Int):=by decide+kernel
theorem zoC (x:Ent2) (h:entOk x=true):AC 300 [entA x] (.d (.str (zc0 x))):=by
 refine fbod Tryz.func300 Tryz.ntmps300 (fun base=>?_)
 obtain ⟨hk,ha0,ha1⟩:=zdp h
 obtain ⟨kind,loc⟩:=x
 simp only at hk ha0 ha1
 obtain ⟨k,rfl⟩:∃k:Nat,kind=k:=⟨kind.toNat,by omega⟩
 obtain ⟨l,rfl⟩:∃l:Nat,loc=l:=⟨loc.toNat,by omega⟩
 have h1:=zkV k (by omega) l (by omega)
 have h2:=zqI k (by omega) l (by omega)
 have hw1:IntKind.u64.wrap (k:Int)=k:=zR (by omega) (by omega)
 have hw2:IntKind.u64.wrap (l:Int)=l:=zR (by omega) (by omega)
 (have tk:=za zbZ <| zb Tryz.prog;have fx:=(⟨hw1,hw2,h2,@zuF,@Int.toNat_natCast,h1⟩:_∧_∧_∧_∧_∧_);repeat' (first|(refine hK _ ?_;clear hK K)|refine wa fun K hK=>?_|refine wb ?_|refine wc ?_ ?_|exact we|clear hK K))
 rfl
@[go_sem] noncomputable def zbz:Ent Tryz.prog 300:= .m1 zf1 zoC
theorem zsA (n:Nat):ishr .u64 (n:Int) 56=((n / 72057594037927936:Nat):Int):=by
 unfold ishr
 rw [show min ((56:Int).toNat) IntKind.u64.bits=56 from rfl]
 rw [Int.fdiv_eq_ediv_of_nonneg _ (by decide)]
 norm_cast
theorem zsB (n:Nat) (hn:n<18446744073709551616):ibits .and .u64 (n:Int) 72057594037927935=((n % 72057594037927936:Nat):Int):=by
 show IntKind.u64.wrap (((BitVec.ofInt 64 (n:Int)&&& BitVec.ofInt 64 72057594037927935).toNat:Nat):Int)=_
 have h2:BitVec.ofInt 64 72057594037927935=BitVec.ofNat 64 72057594037927935:=by decide
 rw [h2,BitVec.ofInt_natCast,BitVec.toNat_and,BitVec.toNat_ofNat,BitVec.toNat_ofNat]
 rw [Nat.mod_eq_of_lt (by omega),show 72057594037927935 % 2 ^ 64=2 ^ 56 - 1 by decide,Nat.and_two_pow_sub_one_eq_mod,zR (by omega) (by omega)]
theorem zmm (e f g h:UInt8):putN (takeN [e,f,g,h]) 4= [e,f,g,h]:=by
 simp only [takeN,putN,List.foldl,List.nil_append,List.cons_append]
 have:=e.toNat_lt;have:=f.toNat_lt;have:=g.toNat_lt;have:=h.toNat_lt
 have key:∀ (n:Nat) (c:UInt8),n % 256=c.toNat→UInt8.ofNat n=c:=fun n c hh=>by
  apply UInt8.toNat_inj.1
  rw [UInt8.toNat_ofNat']
  simpa using hh
 rw [key _ e (by omega),key _ f (by omega),key _ g (by omega),key _ h (by omega)]
theorem zsC (s:Txt) (hs:s.length=8):entT s=if entOk ⟨((takeN s / 72057594037927936:Nat):Int),((takeN s % 72057594037927936:Nat):Int)⟩=true then (⟨((takeN s / 72057594037927936:Nat):Int),((takeN s % 72057594037927936:Nat):Int)⟩,0) else (⟨0,0⟩,14):=by
 match s,hs with
 | [a,b,c,d,e,f,g,h],_=>
  obtain ⟨L,hL⟩:∃L,L=takeN [e,f,g,h]:=⟨_,rfl⟩
  have hL4:L<4294967296:=by
   have h1:=zbj (l:= [e,f,g,h]) (i:=4) (by simp)
   have h2:256 ^ 4=4294967296:=by decide
   omega
  have hpt:putN L 4= [e,f,g,h]:=by rw [hL];exact zmm e f g h
  have ha:=a.toNat_lt;have hb:=b.toNat_lt;have hc:=c.toNat_lt;have hd:=d.toNat_lt
  have hn:takeN [a,b,c,d,e,f,g,h]=((a.toNat*256+b.toNat)*256+c.toNat)*256*4294967296+d.toNat*4294967296+L:=by
   rw [hL]
   simp only [takeN,List.foldl]
   omega
  rw [hn]
  have h1:(((a.toNat*256+b.toNat)*256+c.toNat)*256*4294967296+d.toNat*4294967296+L) / 72057594037927936=a.toNat:=by omega
  have h2:(((a.toNat*256+b.toNat)*256+c.toNat)*256*4294967296+d.toNat*4294967296+L) % 72057594037927936=(b.toNat*256+c.toNat)*256*4294967296+d.toNat*4294967296+L:=by omega
  rw [h1,h2]
  have he:entOf [a,b,c,d,e,f,g,h]=⟨(a.toNat:Int),(L:Int)⟩:=by rw [hL];rfl
  have hby:zc0 ⟨(a.toNat:Int),(L:Int)⟩= [a,0,0,0,e,f,g,h]:=by
   rw [zc0]
   simp only [Int.toNat_natCast,hpt]
   rw [show UInt8.ofNat a.toNat=a by simp]
   rfl
  rw [entT,he,hby]
  by_cases hz:b=0∧c=0∧d=0
  ·obtain ⟨rfl,rfl,rfl⟩:=hz
   simp only [UInt8.toNat_zero,Nat.zero_mul,Nat.zero_add]
   cases hk:entOk ⟨(a.toNat:Int),(L:Int)⟩<;>simp
  ·have hne:([a,0,0,0,e,f,g,h]:Txt)≠ [a,b,c,d,e,f,g,h]:=by
    intro hh
    simp only [List.cons.injEq,true_and] at hh
    exact hz ⟨hh.1.symm,hh.2.1.symm,hh.2.2.1.symm⟩
   rw [if_pos (.inr hne),if_neg]
   intro hk
   obtain ⟨_,_,hlt⟩:=zdp hk
   simp only at hlt
   apply hz
   have hb0:b.toNat=0∧c.toNat=0∧d.toNat=0:=by omega
   exact ⟨UInt8.toNat_inj.1 hb0.1,UInt8.toNat_inj.1 hb0.2.1,UInt8.toNat_inj.1 hb0.2.2⟩
open Go Go.Proofs
theorem zt2 (d:Disk) (p:Plan) (t i:Int) (h:DP d p):AC 229 [diskA d,planA p,.d (.int .i64 t),.d (.int .i64 i)] (.tup [entA (eget d p t i).1,.d (.int .i64 (eget d p t i).2)]):=by
 refine fbod Tryz.func229 Tryz.ntmps229 (fun base=>?_)
 have h1:=h.dok
 have h2:=h.pok
 have h3:=h.plen
 by_cases hr:eRef t i=true
 ·(have tk:=za zbW <| za zI <| za zbf <| za zbV <| za zbz <| za zaK <| zb Tryz.prog);repeat' (first|((first|(refine sa ?_;intro K hK)|refine sb ?_);simp only [go_sem,aeq,aeq.aeqF,simprocAttr,hr,if_true,Tryz.results229])|refine zj (fun K hK=>?_)|refine sc ?_|refine zi rfl (fun hc=>?_) (fun hc=>?_)|(refine hK _ ?_;clear hK K)|with_reducible refine And.intro ?_ ?_|omega|assumption|clear hK K)
  rw [eget,if_pos hr]
 have hr:eRef t i=false:=by simpa using hr
 have hif:∀ (a b:Int),(if eRef t i=true then a else b)=b:=fun a b=>by rw [if_neg (by rw [hr];exact Bool.false_ne_true)]
 obtain ⟨⟨ht0,ht1⟩,hi0,hi1⟩:=zg7 hr
 obtain ⟨A,hA⟩:∃A,A=96+2*t+i / 8:=⟨_,rfl⟩
 have hrg0:eget d p t i=if (plook d p A).2≠0 then (⟨0,0⟩,(plook d p A).2) else entT (((plook d p A).1.take (i % 8*8+8).toNat).drop (i % 8*8).toNat):=by
  rw [eget,if_neg (by rw [hr];exact Bool.false_ne_true),hA]
 by_cases he:(plook d p A).2=0
 ·have hb:((plook d p A).2 !=0)=false:=by simpa using he
  have h64:=zb0 h he
  rw [if_neg (by simpa using he)] at hrg0
  obtain ⟨S,hS⟩:∃S,S=((plook d p A).1.drop (i % 8*8).toNat).take 8:=⟨_,rfl⟩
  have hS2:((plook d p A).1.take (i % 8*8+8).toNat).drop (i % 8*8).toNat=S:=by
   rw [List.drop_take,hS,show (i % 8*8+8).toNat - (i % 8*8).toNat=8 by omega]
  rw [hS2] at hrg0
  have hSl:S.length=8:=by rw [hS,List.length_take,List.length_drop];omega
  rw [zsC S hSl] at hrg0
  have hnl:=zbj (l:=S) (i:=8) (by omega)
  have ht8:=zcd (s:=(plook d p A).1.drop (i % 8*8).toNat) (z:=8) 8 rfl (by omega) (by omega) (by rw [List.length_drop];omega)
  rw [← hS] at ht8
  obtain ⟨n,hn⟩:∃n,n=takeN S:=⟨_,rfl⟩
  rw [← hn] at ht8 hrg0 hnl
  have hsh:=zsA n
  have had:=zsB n (by omega)
  have hw1:IntKind.i64.wrap ((n / 72057594037927936:Nat):Int)=((n / 72057594037927936:Nat):Int):=zh (by omega) (by omega)
  have hw2:IntKind.i64.wrap ((n % 72057594037927936:Nat):Int)=((n % 72057594037927936:Nat):Int):=zh (by omega) (by omega)
  have hld:((plook d p A).1.drop (i % 8*8).toNat).length≤64:=by rw [List.length_drop];omega
  have htk:List.take (plook d p A).1.length (plook d p A).1=(plook d p A).1:=List.take_length
  obtain ⟨x,hx⟩:∃x:Ent2,x=⟨((n / 72057594037927936:Nat):Int),((n % 72057594037927936:Nat):Int)⟩:=⟨_,rfl⟩
  rw [← hx] at hrg0
  have hx1:((n / 72057594037927936:Nat):Int)=x.kind:=by rw [hx]
  have hx2:((n % 72057594037927936:Nat):Int)=x.loc:=by rw [hx]
  rw [hx1] at hw1 hsh
  rw [hx2] at hw2 had
  (have tk:=za zbW <| za zI <| za zbf <| za zbV <| za zbz <| za zaK <| zb Tryz.prog;have fx:=(⟨hif,hA.symm,hb,ht8,htk,hsh,had,hw1,hw2⟩:_∧_∧_∧_∧_∧_∧_∧_∧_);(repeat' (first|(refine hK _ ?_;clear hK K)|refine wa fun K hK=>?_|refine wb ?_|refine wc ?_ ?_|exact we|refine fun (hc:_=(_:Bool))=>?_|clear hK K));all_goals clear fx)
  all_goals (rw [hrg0];simp_all;done)
 ·have hb:((plook d p A).2 !=0)=true:=by simpa using he
  rw [if_pos he] at hrg0
  (have tk:=za zbW <| za zI <| za zbf <| za zbV <| za zbz <| za zaK <| zb Tryz.prog;have fx:=(⟨hif,hA.symm,hb⟩:_∧_∧_);repeat' (first|(refine hK _ ?_;clear hK K)|refine wa fun K hK=>?_|refine wb ?_|refine wc ?_ ?_|exact we|refine fun (hc:_=(_:Bool))=>?_|clear hK K))
  rw [hrg0]
@[go_sem] noncomputable def zqJ:Ent Tryz.prog 229:= .m4 zp zt (intT .i64) (intT .i64) zt2
theorem zt3 (d:Disk) (p:Plan) (t i:Int) (x:Ent2) (h:DP d p):AC 284 [diskA d,planA p,.d (.int .i64 t),.d (.int .i64 i),entA x] (.tup [planA (eset d p t i x).1,.d (.int .i64 (eset d p t i x).2)]):=by
 refine fbod Tryz.func284 Tryz.ntmps284 (fun base=>?_)
 have h1:=h.dok
 have h2:=h.puts
 have h3:=h.p
 by_cases hr:eRef t i=true
 ·(have tk:=za zbW <| za zI <| za zbf <| za zbV <| za zbz <| za zaK <| zb Tryz.prog);repeat' (first|((first|(refine sa ?_;intro K hK)|refine sb ?_);simp only [go_sem,aeq,aeq.aeqF,simprocAttr,hr,if_true,Tryz.results284])|refine zj (fun K hK=>?_)|refine sc ?_|refine zi rfl (fun hc=>?_) (fun hc=>?_)|(refine hK _ ?_;clear hK K)|with_reducible refine And.intro ?_ ?_|(refine (show zO _ _=true from ?_);kernel_rfl)|omega|assumption|clear hK K)
  rw [eset,if_pos hr]
 have hr:eRef t i=false:=by simpa using hr
 have hif:∀ (a b:Int),(if eRef t i=true then a else b)=b:=fun a b=>by rw [if_neg (by rw [hr];exact Bool.false_ne_true)]
 obtain ⟨⟨ht0,ht1⟩,hi0,hi1⟩:=zg7 hr
 by_cases hx:entOk x=true
 ·have hl:=zf2 x
  (have tk:=za zbW <| za zI <| za zbf <| za zbV <| za zbz <| za zaK <| zb Tryz.prog;have fx:=(⟨hif,hx,hl⟩:_∧_∧_);repeat' (first|(refine hK _ ?_;clear hK K)|refine wa fun K hK=>?_|refine wb ?_|refine wc ?_ ?_|exact we|refine fun (hc:_=(_:Bool))=>?_|clear hK K))
  rw [eset,if_neg (by rw [hr];exact Bool.false_ne_true),if_neg (by rw [hx];exact fun h=>by cases h)]
 ·have hx:entOk x=false:=by simpa using hx
  (have tk:=za zbW <| za zI <| za zbf <| za zbV <| za zbz <| za zaK <| zb Tryz.prog;have fx:=(⟨hif,hx⟩:_∧_);repeat' (first|(refine hK _ ?_;clear hK K)|refine wa fun K hK=>?_|refine wb ?_|refine wc ?_ ?_|exact we|refine fun (hc:_=(_:Bool))=>?_|clear hK K))
  rw [eset,if_neg (by rw [hr];exact Bool.false_ne_true),if_pos hx]
@[go_sem] noncomputable def zqK:Ent Tryz.prog 284:= .m5 zp zt (intT .i64) (intT .i64) zf1 zt3
open Go Go.Proofs
theorem zoD (p:Plan) (i:Int) (_:True):AC 298 [planA p,.d (.int .i64 i)] (.tup [.d (.str z64),.d (.int .i64 0)]):=by
 refine bod Tryz.func298 Tryz.ntmps298 (fun base=>?_)
 (have tk:=za zdA <| za zcc <| za zI <| zb Tryz.prog;repeat' (first|(refine hK _ ?_;clear hK K)|refine wa fun K hK=>?_|refine wb ?_|refine wc ?_ ?_|exact we|clear hK K))
 rfl
@[go_sem] noncomputable def zaY:Ent Tryz.prog 298:= .m2 zt (intT .i64) zoD
theorem zqL (q:Plan) (i:Int) (d:Disk) (a:Int) (hd:DiskOk d) (hq:PlanOk q) (hl:q.targets.length=q.texts.length) (h0:0≤a) (h1:a<256) (h2:0≤i) (h3:i<2):ACall Tryz.prog 220 0 [planA q,.d (.int .i64 i),.dp (diskC d),.dp [.d (.int .i64 a)]] [] (fun r _=>r= .tup [.d (.str (plook d q (96+2*a+i)).1),.d (.int .i64 (plook d q (96+2*a+i)).2)]):=by
 refine bod Tryz.func220 Tryz.ntmps220 (fun base=>?_)
 have hw1:IntKind.i64.wrap (96+2*a+i)=96+2*a+i:=zh (by omega) (by omega)
 (have tk:=za zdA <| za zcc <| za zI <| zb Tryz.prog;have fx:=hw1;repeat' (first|(refine hK _ ?_;clear hK K)|refine wa fun K hK=>?_|refine wb ?_|refine wc ?_ ?_|exact we|clear hK K))
@[go_sem] noncomputable def zbq:Ent Tryz.prog 220:= .ofL (consL zt (consL (intT .i64) (consL zpJ (consL (dpT (consL (intT .i64) nilL) (fun p=>p) (fun p=>p) (fun _=>rfl)) nilL)))) (fun (q,i,d,(a,_),_)=>(DiskOk d)∧(PlanOk q)∧(q.targets.length=q.texts.length)∧(0≤a)∧(a<256)∧(0≤i)∧(i<2)) (fun (q,i,d,(a,_),_)=> .tup [.d (.str (plook d q (96+2*a+i)).1),.d (.int .i64 (plook d q (96+2*a+i)).2)]) (fun (q,i,d,(a,_),_) hp=>⟨rfl,zqL q i d a hp.1 hp.2.1 hp.2.2.1 hp.2.2.2.1 hp.2.2.2.2.1 hp.2.2.2.2.2.1 hp.2.2.2.2.2.2⟩)
theorem zqM (p:Plan) (t:Int) (hp:pfit p=true) (ht0:0≤t) (ht1:t<256):ACall Tryz.prog 219 0 [planA p,.d (.int .i64 t),.fn (.func 298) [] []] [] (fun r _=>r= .tup [planA (zaS p t (fun _ _=>(z64,0)) 2 0 p).1,.d (.int .i64 (zaS p t (fun _ _=>(z64,0)) 2 0 p).2)]):=by
 refine fbod Tryz.func219 Tryz.ntmps219 (fun base=>?_)
 obtain ⟨f,hf⟩:∃f:Plan→Int→Txt×Int,f=fun _ _=>(z64,0):=⟨_,rfl⟩
 rw [← hf]
 (have tk:=za zaY <| za zbq <| za zcc <| za zb3 <| zb Tryz.prog;repeat' (first|(refine hK _ ?_;clear hK K)|refine wa fun K hK=>?_|refine wb ?_|refine wc ?_ ?_|exact we|refine fun (hc:_=(_:Bool))=>?_|clear hK K))
 refine zn (fun q: { q:Nat×Plan // q.1≤2∧pfit q.2=true∧zaS p t f 2 0 p=zaS p t f (2 - q.1) q.1 q.2 } =>⟨[(1,true,.d (.int .i64 t)),(2,true,.fn (.func 298) [] []),(3,true,.vp 0 0),(6,true,.vp 1 0),(8,true,.vp 2 0),(13,true,.d (.int .i64 q.1.1))],[(2,(.var [.d (.sl 1 (q.1.2.targets.map intD)),.d (.sl 1 (q.1.2.texts.map strD))])),(1,.var [.nils 1,.nils 1]),(0,(.var [.d (.sl 1 (p.targets.map intD)),.d (.sl 1 (p.texts.map strD))]))],some []⟩) (fun q=>2 - q.1.1) ⟨(0,p),Nat.zero_le 2,hp,rfl⟩ le1 (fun q=>?_)
 obtain ⟨⟨i,q⟩,hi,hq,hf2⟩:=q
 simp only at hi hq hf2 ⊢
 have hqo:=PlanOk.of hq
 obtain ⟨hql,hq24,_⟩:=zag hq
 rcases Nat.lt_or_ge i 2 with hlt|hge
 ·have hcmp:decide ((i:Int)<2)=true:=decide_eq_true (by omega)
  have hwi:=zq (i:=i) (by omega)
  have hw1:IntKind.i64.wrap (96+2*t+(i:Int))=96+2*t+i:=zh (by omega) (by omega)
  rw [zem p t f i q hlt] at hf2
  have hf0:f q i=(z64,0):=by rw [hf]
  simp only [hf0] at hf2
  rw [if_neg (show ¬(0:Int)≠0 by decide)] at hf2
  (have tk:=za zaY <| za zbq <| za zcc <| za zb3 <| zb Tryz.prog;have fx:=(⟨hcmp,hw1⟩:_∧_);repeat' (first|(refine hK _ ?_;clear hK K)|refine wa fun K hK=>?_|refine wb ?_|refine wc ?_ ?_|exact we|refine fun (hc:_=(_:Bool))=>?_|clear hK K))
  ·have hc:(pset q (96+2*t+i) z64).2≠0:=by simpa using hc
   rw [hf2,if_pos hc]
  ·have hc:¬(pset q (96+2*t+i) z64).2≠0:=by simpa using hc
   rw [if_neg hc] at hf2
   exact ⟨⟨(i+1,(pset q (96+2*t+i) z64).1),by omega,zcV hq,hf2⟩,lew,by simp;omega⟩
 ·have hcmp:decide ((i:Int)<2)=false:=decide_eq_false (by omega)
  (have tk:=za zaY <| za zbq <| za zcc <| za zb3 <| zb Tryz.prog;have fx:=hcmp;repeat' (first|(refine hK _ ?_;clear hK K)|refine wa fun K hK=>?_|refine wb ?_|refine wc ?_ ?_|exact we|refine fun (hc:_=(_:Bool))=>?_|clear hK K))
  rw [hf2,show 2 - i=0 by omega]
  rfl
@[go_sem] noncomputable def zhe:Ent Tryz.prog 219:= .ofL (consL zt (consL (intT .i64) (consL (fnT 298 nilL) nilL))) (fun (p,t,_,_)=>(pfit p=true)∧(0≤t)∧(t<256)) (fun (p,t,_,_)=> .tup [planA (zaS p t (fun _ _=>(z64,0)) 2 0 p).1,.d (.int .i64 (zaS p t (fun _ _=>(z64,0)) 2 0 p).2)]) (fun (p,t,_,_) hp=>⟨rfl,zqM p t hp.1 hp.2.1 hp.2.2⟩)
theorem zqN (p:Plan) (t:Int) (d:Disk) (a:Int) (h:DP d p) (ht0:0≤t) (ht1:t<256) (h0:0≤a) (h1:a<256):ACall Tryz.prog 219 4 [planA p,.d (.int .i64 t),.fn (.func 220) [] [.vp 0 0,.vp 2 0]] [(3,.var [.nils 1,.nils 1]),(2,.var [.d (.int .i64 a)]),(1,(.var [.d (.sl 1 (p.targets.map intD)),.d (.sl 1 (p.texts.map strD))])),(0,(.var [.d (.str d.data),.d (.sl 2 (d.cache.map putD)),.d (.int .i64 d.fuse),.d (.bool d.off),.d (.sl 1 (d.bad.map intD))]))] (fun r h'=>r= .tup [planA (zaS p t (fun q i=>plook d q (96+2*a+i)) 2 0 p).1,.d (.int .i64 (zaS p t (fun q i=>plook d q (96+2*a+i)) 2 0 p).2)]∧h'= [(3,.var [.nils 1,.nils 1]),(2,.var [.d (.int .i64 a)]),(1,(.var [.d (.sl 1 (p.targets.map intD)),.d (.sl 1 (p.texts.map strD))])),(0,(.var [.d (.str d.data),.d (.sl 2 (d.cache.map putD)),.d (.int .i64 d.fuse),.d (.bool d.off),.d (.sl 1 (d.bad.map intD))]))]):=by
 refine zef (fun i=>decide (i<4)) ?_
 refine bod Tryz.func219 Tryz.ntmps219 (fun base=>?_)
 have hp:=h.p
 have hdo:=h.dok
 obtain ⟨f,hf⟩:∃f:Plan→Int→Txt×Int,f=fun q i=>plook d q (96+2*a+i):=⟨_,rfl⟩
 rw [← hf]
 (have tk:=za zaY <| za zbq <| za zcc <| za zb3 <| zb Tryz.prog;repeat' (first|(refine hK _ ?_;clear hK K)|refine wa fun K hK=>?_|refine wb ?_|refine wc ?_ ?_|exact we|refine fun (hc:_=(_:Bool))=>?_|clear hK K))
 refine zn (fun q: { q:Nat×Plan // q.1≤2∧pfit q.2=true∧zaS p t f 2 0 p=zaS p t f (2 - q.1) q.1 q.2 } =>⟨[(1,true,.d (.int .i64 t)),(2,true,.fn (.func 220) [] [.vp 0 0,.vp 2 0]),(3,true,.vp 4 0),(6,true,.vp 5 0),(8,true,.vp 6 0),(13,true,.d (.int .i64 q.1.1))],[(6,(.var [.d (.sl 1 (q.1.2.targets.map intD)),.d (.sl 1 (q.1.2.texts.map strD))])),(5,.var [.nils 1,.nils 1]),(4,(.var [.d (.sl 1 (p.targets.map intD)),.d (.sl 1 (p.texts.map strD))])),(3,.var [.nils 1,.nils 1]),(2,.var [.d (.int .i64 a)]),(1,(.var [.d (.sl 1 (p.targets.map intD)),.d (.sl 1 (p.texts.map strD))])),(0,(.var [.d (.str d.data),.d (.sl 2 (d.cache.map putD)),.d (.int .i64 d.fuse),.d (.bool d.off),.d (.sl 1 (d.bad.map intD))]))],some []⟩) (fun q=>2 - q.1.1) ⟨(0,p),Nat.zero_le 2,hp,rfl⟩ le1 (fun q=>?_)
 obtain ⟨⟨i,q⟩,hi,hq,hf2⟩:=q
 simp only at hi hq hf2 ⊢
 have hqo:=PlanOk.of hq
 obtain ⟨hql,hq24,_⟩:=zag hq
 have hdq:DP d q:=⟨h.d,hq⟩
 rcases Nat.lt_or_ge i 2 with hlt|hge
 ·have hcmp:decide ((i:Int)<2)=true:=decide_eq_true (by omega)
  have hwi:=zq (i:=i) (by omega)
  have hw1:IntKind.i64.wrap (96+2*t+(i:Int))=96+2*t+i:=zh (by omega) (by omega)
  rw [zem p t f i q hlt] at hf2
  have hf0:f q i=plook d q (96+2*a+i):=by rw [hf]
  simp only [hf0] at hf2
  by_cases he:(plook d q (96+2*a+i)).2=0
  ·have hb:((plook d q (96+2*a+i)).2 !=0)=false:=by simpa using he
   have h64:=zb0 hdq he
   rw [if_neg (by simpa using he)] at hf2
   (have tk:=za zaY <| za zbq <| za zcc <| za zb3 <| zb Tryz.prog;have fx:=(⟨hcmp,hw1,hb⟩:_∧_∧_);repeat' (first|(refine hK _ ?_;clear hK K)|refine wa fun K hK=>?_|refine wb ?_|refine wc ?_ ?_|exact we|refine fun (hc:_=(_:Bool))=>?_|clear hK K))
   ·have hc:(pset q (96+2*t+i) (plook d q (96+2*a+i)).1).2≠0:=by simpa using hc
    rw [if_pos hc] at hf2
    rw [hf2]
   ·have hc:¬(pset q (96+2*t+i) (plook d q (96+2*a+i)).1).2≠0:=by simpa using hc
    rw [if_neg hc] at hf2
    exact ⟨⟨(i+1,(pset q (96+2*t+i) (plook d q (96+2*a+i)).1).1),by omega,zcV hq,hf2⟩,lew,by simp;omega⟩
  ·have hb:((plook d q (96+2*a+i)).2 !=0)=true:=by simpa using he
   rw [if_pos (by simpa using he)] at hf2
   (have tk:=za zaY <| za zbq <| za zcc <| za zb3 <| zb Tryz.prog;have fx:=(⟨hcmp,hb⟩:_∧_);repeat' (first|(refine hK _ ?_;clear hK K)|refine wa fun K hK=>?_|refine wb ?_|refine wc ?_ ?_|exact we|refine fun (hc:_=(_:Bool))=>?_|clear hK K))
   rw [hf2]
 ·have hcmp:decide ((i:Int)<2)=false:=decide_eq_false (by omega)
  (have tk:=za zaY <| za zbq <| za zcc <| za zb3 <| zb Tryz.prog;have fx:=hcmp;repeat' (first|(refine hK _ ?_;clear hK K)|refine wa fun K hK=>?_|refine wb ?_|refine wc ?_ ?_|exact we|refine fun (hc:_=(_:Bool))=>?_|clear hK K))
  rw [hf2,show 2 - i=0 by omega]
  rfl
theorem zqO (p:Plan) (t:Int) (hp:pfit p=true):AC 280 [planA p,.d (.int .i64 t)] (.tup [planA (eblank p t).1,.d (.int .i64 (eblank p t).2)]):=by
 refine fbod Tryz.func280 Tryz.ntmps280 (fun base=>?_)
 by_cases hk:zD t=true
 ·obtain ⟨ht0,ht1⟩:=hostOk_iff.1 hk
  have hbl:eblank p t=zaS p t (fun _ _=>(z64,0)) 2 0 p:=by rw [eblank,if_neg (by rw [hk];exact fun h=>by cases h)]
  (have tk:=za zb7 <| za zhe <| zb Tryz.prog;have fx:=hk;repeat' (first|(refine hK _ ?_;clear hK K)|refine wa fun K hK=>?_|refine wb ?_|refine wc ?_ ?_|exact we|refine fun (hc:_=(_:Bool))=>?_|clear hK K))
  rw [hbl]
 ·have hk:zD t=false:=by simpa using hk
  (have tk:=za zb7 <| za zhe <| zb Tryz.prog;have fx:=hk;repeat' (first|(refine hK _ ?_;clear hK K)|refine wa fun K hK=>?_|refine wb ?_|refine wc ?_ ?_|exact we|refine fun (hc:_=(_:Bool))=>?_|clear hK K))
  rw [eblank,if_pos hk]
@[go_sem] noncomputable def zmn:Ent Tryz.prog 280:= .m2 zt (intT .i64) zqO
theorem zsD (d:Disk) (p:Plan) (a t:Int) (h:DP d p):AC 153 [diskA d,planA p,.d (.int .i64 a),.d (.int .i64 t)] (.tup [planA (ecopy d p a t).1,.d (.int .i64 (ecopy d p a t).2)]):=by
 refine fbod Tryz.func153 Tryz.ntmps153 (fun base=>?_)
 by_cases hk:zD a=false∨zD t=false
 ·have hdec:(!zD a|| !zD t)=true:=by simpa using hk
  (have tk:=za zb7 <| zb Tryz.prog;have fx:=hdec;repeat' (first|(refine hK _ ?_;clear hK K)|refine wa fun K hK=>?_|refine wb ?_|refine wc ?_ ?_|exact we|refine fun (hc:_=(_:Bool))=>?_|clear hK K))
  rw [ecopy,if_pos hk]
 ·have hdec:(!zD a|| !zD t)=false:=by simpa using hk
  have hcp:ecopy d p a t=zaS p t (fun q i=>plook d q (96+2*a+i)) 2 0 p:=by rw [ecopy,if_neg hk]
  simp only [not_or,Bool.not_eq_false] at hk
  obtain ⟨ha0,ha1⟩:=hostOk_iff.1 hk.1
  obtain ⟨ht0,ht1⟩:=hostOk_iff.1 hk.2
  (have tk:=za zb7 <| zb Tryz.prog;have fx:=(⟨hdec,hk.1,hk.2⟩:_∧_∧_);repeat' (first|(refine hK _ ?_;clear hK K)|refine wa fun K hK=>?_|refine wb ?_|refine wc ?_ ?_|exact we|refine fun (hc:_=(_:Bool))=>?_|clear hK K))
  refine ((zqN p t d a h ht0 ht1 ha0 ha1).whole (zaP rfl) (by omega) (by rintro r h' ⟨_,rfl⟩ i hi;exact hi)).mono ?_
  rintro r h' ⟨rfl,rfl⟩
  simp only [go_sem,aeq,aeq.aeqF,simprocAttr]
  (have tk:=za zb7 <| zb Tryz.prog;have fx:=Go.Aw.fx;repeat' (first|(refine hK _ ?_;clear hK K)|refine wa fun K hK=>?_|refine wb ?_|refine wc ?_ ?_|exact we|refine fun (hc:_=(_:Bool))=>?_|clear hK K))
  rw [hcp]
@[go_sem] noncomputable def zoE:Ent Tryz.prog 153:= .m4 zp zt (intT .i64) (intT .i64) zsD
open Go Go.Proofs
def pfill (d:Disk) (p:Plan) (fr k:Int):Plan×Int:=if fr<0 then eblank p k else ecopy d p fr k
def pless (d:Disk) (p:Plan) (fr:Int):Plan×Int:=if fr<0 then (p,0) else radd d p fr (-1)
def pfresh (d:Disk) (p:Plan) (g:Geom) (l1 i fr:Int):Plan×Int×Int:=
 if (rtake d p g).2.2≠0 then (p,0,(rtake d p g).2.2)
 else if (pfill d (rtake d p g).1 fr (rtake d p g).2.1).2≠0 then (p,0,(pfill d (rtake d p g).1 fr (rtake d p g).2.1).2)
 else if (pless d (pfill d (rtake d p g).1 fr (rtake d p g).2.1).1 fr).2≠0 then (p,0,(pless d (pfill d (rtake d p g).1 fr (rtake d p g).2.1).1 fr).2)
 else if (eset d (pless d (pfill d (rtake d p g).1 fr (rtake d p g).2.1).1 fr).1 l1 i ⟨1,(rtake d p g).2.1⟩).2≠0 then (p,0,(eset d (pless d (pfill d (rtake d p g).1 fr (rtake d p g).2.1).1 fr).1 l1 i ⟨1,(rtake d p g).2.1⟩).2)
 else ((eset d (pless d (pfill d (rtake d p g).1 fr (rtake d p g).2.1).1 fr).1 l1 i ⟨1,(rtake d p g).2.1⟩).1,(rtake d p g).2.1,0)
def pown2 (d:Disk) (p:Plan) (g:Geom) (l1 i:Int):Plan×Int×Int:=
 if (eget d p l1 i).2≠0 then (p,0,(eget d p l1 i).2) else if (eget d p l1 i).1.kind=2 then (p,0,14)
 else if (eget d p l1 i).1.kind=0 then pfresh d p g l1 i (-1) else if (rget d p (eget d p l1 i).1.loc).2≠0 then (p,0,(rget d p (eget d p l1 i).1.loc).2)
 else if (rget d p (eget d p l1 i).1.loc).1≤1 then (p,(eget d p l1 i).1.loc,0) else pfresh d p g l1 i (eget d p l1 i).1.loc
def pown (d:Disk) (p:Plan) (g:Geom) (guest:Int):Plan×Int×Int:=
 if guest<0∨g.guest≤guest then (p,0,10) else if (zy d p).2≠0 then (p,0,(zy d p).2) else pown2 d p g (zy d p).1.l1 (guest / 16)
def zl6 (d:Disk) (p q:Plan) (t i:Int) (x:Ent2):Plan×Int:=
  if (eget d q t i).2≠0 then (p,(eget d q t i).2)
  else if (eget d q t i).1.kind=1 then
    (if (radd d q (eget d q t i).1.loc (-1)).2≠0 then (p,(radd d q (eget d q t i).1.loc (-1)).2)
     else if (eset d (radd d q (eget d q t i).1.loc (-1)).1 t i x).2≠0 then (p,(eset d (radd d q (eget d q t i).1.loc (-1)).1 t i x).2) else ((eset d (radd d q (eget d q t i).1.loc (-1)).1 t i x).1,0))
  else if (eset d q t i x).2≠0 then (p,(eset d q t i x).2) else ((eset d q t i x).1,0)
def ppoint (d:Disk) (p:Plan) (g:Geom) (guest:Int) (x:Ent2):Plan×Int:=
 if (pown d p g guest).2.2≠0 then (p,(pown d p g guest).2.2) else zl6 d p (pown d p g guest).1 (pown d p g guest).2.1 (guest % 16) x
theorem DP.pfill {d:Disk} {p:Plan} (h:DP d p) (a b:Int):DP d (pfill d p a b).1:=by unfold Aw.pfill;split;exact h.eblank _;exact h.ecopy _ _
theorem DP.pless {d:Disk} {p:Plan} (h:DP d p) (a:Int):DP d (pless d p a).1:=by unfold Aw.pless;split;exact h;exact h.radd _ _
theorem DP.pfresh {d:Disk} {p:Plan} (h:DP d p) (g:Geom) (l1 i fr:Int):DP d (pfresh d p g l1 i fr).1:=by
 unfold Aw.pfresh
 split
 ·exact h
 split
 ·exact h
 split
 ·exact h
 split
 ·exact h
 ·exact (((h.rtake g).pfill _ _).pless _).eset _ _ _
theorem DP.pown {d:Disk} {p:Plan} (h:DP d p) (g:Geom) (guest:Int):DP d (pown d p g guest).1:=by
 unfold Aw.pown
 split
 ·exact h
 split
 ·exact h
 unfold Aw.pown2
 split
 ·exact h
 split
 ·exact h
 split
 ·exact h.pfresh _ _ _ _
 split
 ·exact h
 split
 ·exact h
 ·exact h.pfresh _ _ _ _
theorem DP.ppoint {d:Disk} {p:Plan} (h:DP d p) (g:Geom) (guest:Int) (x:Ent2):DP d (ppoint d p g guest x).1:=by
 have ho:=h.pown g guest
 unfold Aw.ppoint
 split
 ·exact h
 unfold zl6
 split
 ·exact h
 split
 ·split
  ·exact h
  split
  ·exact h
  ·exact (ho.radd _ _).eset _ _ _
 ·split
  ·exact h
  ·exact ho.eset _ _ _
theorem zl7 (d:Disk) (p:Plan) (g:Geom) (l1 i fr:Int) (hp:DP d p∧g.host≤1000000):AC 247 [diskA d,planA p,geomA g,.d (.int .i64 l1),.d (.int .i64 i),.d (.int .i64 fr)] (.tup [planA (pfresh d p g l1 i fr).1,.d (.int .i64 (pfresh d p g l1 i fr).2.1),.d (.int .i64 (pfresh d p g l1 i fr).2.2)]):=by
 obtain ⟨h,hg⟩:=hp
 refine fbod Tryz.func247 Tryz.ntmps247 (fun base=>?_)
 have h1:=h.rtake g
 have h2:=h1.p
 rw [pfresh]
 obtain ⟨T,hT⟩:∃T,T=rtake d p g:=⟨_,rfl⟩
 rw [← hT] at h1 h2 ⊢
 by_cases hfr:fr<0
 ·have hd1:decide (fr<0)=true:=decide_eq_true hfr
  have hd2:decide (0≤fr)=false:=decide_eq_false (by omega)
  have e1:∀q k,pfill d q fr k=eblank q k:=fun q k=>by rw [pfill,if_pos hfr]
  have e2:∀q,pless d q fr=(q,0):=fun q=>by rw [pless,if_pos hfr]
  simp only [e1,e2]
  have h3:=h1.eblank T.2.1
  obtain ⟨B,hB⟩:∃B,B=eblank T.1 T.2.1:=⟨_,rfl⟩
  rw [← hB] at h3 ⊢
  obtain ⟨C,hC⟩:∃C,C=eset d B.1 l1 i ⟨1,T.2.1⟩:=⟨_,rfl⟩
  rw [← hC]
  (have tk:=za zaX <| za ze5 <| za zaG <| za zao <| za zdH <| zb Tryz.prog;have fx:=(⟨hd1,hd2,hT.symm,hB.symm,hC.symm⟩:_∧_∧_∧_∧_);(repeat' (first|(refine hK _ ?_;clear hK K)|refine va fun K hK=>?_|refine vb ?_|refine wc ?_ ?_|exact we|refine fun (hc:_=(_:Bool))=>?_|clear hK K));all_goals clear fx)
  all_goals (clear h1 h2 h3 hT hB hC e1 e2 hd1 hd2;simp_all;done)
 ·have hd1:decide (fr<0)=false:=decide_eq_false hfr
  have hd2:decide (0≤fr)=true:=decide_eq_true (by omega)
  have e1:∀q k,pfill d q fr k=ecopy d q fr k:=fun q k=>by rw [pfill,if_neg hfr]
  have e2:∀q,pless d q fr=radd d q fr (-1):=fun q=>by rw [pless,if_neg hfr]
  simp only [e1,e2]
  have h3:=h1.ecopy fr T.2.1
  obtain ⟨B,hB⟩:∃B,B=ecopy d T.1 fr T.2.1:=⟨_,rfl⟩
  rw [← hB] at h3 ⊢
  have h4:=h3.radd fr (-1)
  obtain ⟨N,hN⟩:∃N,N=radd d B.1 fr (-1):=⟨_,rfl⟩
  rw [← hN] at h4 ⊢
  obtain ⟨C,hC⟩:∃C,C=eset d N.1 l1 i ⟨1,T.2.1⟩:=⟨_,rfl⟩
  rw [← hC]
  (have tk:=za zaX <| za ze5 <| za zaG <| za zao <| za zdH <| zb Tryz.prog;have fx:=(⟨hd1,hd2,hT.symm,hB.symm,hN.symm,hC.symm⟩:_∧_∧_∧_∧_∧_);(repeat' (first|(refine hK _ ?_;clear hK K)|refine va fun K hK=>?_|refine vb ?_|refine wc ?_ ?_|exact we|refine fun (hc:_=(_:Bool))=>?_|clear hK K));all_goals clear fx)
  all_goals (clear h1 h2 h3 h4 hT hB hC hN e1 e2 hd1 hd2;simp_all;done)
@[go_sem] noncomputable def ze6:Ent Tryz.prog 247:= .m6 zp zt zdG (intT .i64) (intT .i64) (intT .i64) zl7
open Go Go.Proofs
theorem zqv (d:Disk) (p:Plan) (g:Geom) (k:Int) (hp:DP d p∧g.host≤1000000∧g.guest≤1000000):AC 187 [diskA d,planA p,geomA g,.d (.int .i64 k)] (.tup [planA (pown d p g k).1,.d (.int .i64 (pown d p g k).2.1),.d (.int .i64 (pown d p g k).2.2)]):=by
 obtain ⟨h,hg,hh⟩:=hp
 refine fbod Tryz.func187 Tryz.ntmps187 (fun base=>?_)
 by_cases hk:k<0∨g.guest≤k
 ·have hdec:(decide (k<0)||decide (g.guest≤k))=true:=by simpa using hk
  (have tk:=za z8 <| za zas <| za zbx <| za ze6 <| zb Tryz.prog;have fx:=hdec;(repeat' (first|(refine hK _ ?_;clear hK K)|refine va fun K hK=>?_|refine vb ?_|refine wc ?_ ?_|exact we|refine fun (hc:_=(_:Bool))=>?_|clear hK K));all_goals clear fx)
  rw [pown,if_pos hk]
 have hdec:(decide (k<0)||decide (g.guest≤k))=false:=by simpa using hk
 rw [pown,if_neg hk]
 obtain ⟨R,hR⟩:∃R,R=zy d p:=⟨_,rfl⟩
 rw [← hR]
 have hw1:IntKind.i64.wrap (k.tdiv 16)=k / 16:=by rw [Int.tdiv_eq_ediv_of_nonneg (by omega),zh (by omega) (by omega)]
 obtain ⟨I,hI⟩:∃I,I=k / 16:=⟨_,rfl⟩
 rw [← hI]
 obtain ⟨X,hX⟩:∃X,X=eget d p R.1.l1 I:=⟨_,rfl⟩
 obtain ⟨N,hN⟩:∃N,N=rget d p X.1.loc:=⟨_,rfl⟩
 rw [pown2,← hX,← hN]
 (have tk:=za z8 <| za zas <| za zbx <| za ze6 <| zb Tryz.prog;have fx:=(⟨hdec,hw1,hR.symm,hI.symm,hX.symm,hN.symm⟩:_∧_∧_∧_∧_∧_);(repeat' (first|(refine hK _ ?_;clear hK K)|refine va fun K hK=>?_|refine vb ?_|refine wc ?_ ?_|exact we|refine fun (hc:_=(_:Bool))=>?_|clear hK K));all_goals clear fx)
 all_goals (clear hR hI hX hN hw1 hdec;first|(simp_all;done)|(simp_all;simp only [if_neg (show ¬N.1≤1 by omega)];simp;done))
@[go_sem] noncomputable def zg8:Ent Tryz.prog 187:= .m4 zp zt zdG (intT .i64) zqv
theorem zl8 (d:Disk) (p:Plan) (g:Geom) (k:Int) (x:Ent2) (hp:DP d p∧g.host≤1000000∧g.guest≤1000000):AC 121 [diskA d,planA p,geomA g,.d (.int .i64 k),entA x] (.tup [planA (ppoint d p g k x).1,.d (.int .i64 (ppoint d p g k x).2)]):=by
 obtain ⟨h,hg,hh⟩:=hp
 refine fbod Tryz.func121 Tryz.ntmps121 (fun base=>?_)
 have h1:=h.pown g k
 by_cases he:(pown d p g k).2.2=0
 ·have hb:((pown d p g k).2.2 !=0)=false:=by simpa using he
  have hk0:0≤k∧k<g.guest:=by
   unfold pown at he
   by_cases hk:k<0∨g.guest≤k
   ·rw [if_pos hk] at he;cases he
   ·omega
  rw [ppoint,if_neg (by simpa using he)]
  obtain ⟨O,hO⟩:∃O,O=pown d p g k:=⟨_,rfl⟩
  rw [← hO] at h1 ⊢
  have hw2:k.tmod 16=k % 16:=Int.tmod_eq_emod_of_nonneg (by omega)
  obtain ⟨I,hI⟩:∃I,I=k % 16:=⟨_,rfl⟩
  obtain ⟨X,hX⟩:∃X,X=eget d O.1 O.2.1 I:=⟨_,rfl⟩
  have h2:=h1.radd X.1.loc (-1)
  obtain ⟨N,hN⟩:∃N,N=radd d O.1 X.1.loc (-1):=⟨_,rfl⟩
  rw [← hN] at h2
  obtain ⟨S,hS⟩:∃S,S=eset d N.1 O.2.1 I x:=⟨_,rfl⟩
  obtain ⟨S',hS'⟩:∃S',S'=eset d O.1 O.2.1 I x:=⟨_,rfl⟩
  rw [zl6,← hI,← hX,← hN,← hS,← hS']
  rw [← hO] at hb
  have hx1:eset d N.1 O.2.1 I ⟨x.kind,x.loc⟩=S:=hS.symm
  have hx2:eset d O.1 O.2.1 I ⟨x.kind,x.loc⟩=S':=hS'.symm
  (have tk:=za zg8 <| za zas <| za zao <| za zdH <| zb Tryz.prog;have fx:=(⟨hw2,hO.symm,hI.symm,hX.symm,hN.symm,hb,hx1,hx2⟩:_∧_∧_∧_∧_∧_∧_∧_);(repeat' (first|(refine hK _ ?_;clear hK K)|refine va fun K hK=>?_|refine vb ?_|refine wc ?_ ?_|exact we|refine fun (hc:_=(_:Bool))=>?_|clear hK K));all_goals clear fx)
  all_goals (clear hO hI hX hN hS hS' hx1 hx2 hw2 h1 h2 hb;simp_all;done)
 ·have hb:((pown d p g k).2.2 !=0)=true:=by simpa using he
  (have tk:=za zg8 <| za zas <| za zao <| za zdH <| zb Tryz.prog;have fx:=hb;repeat' (first|(refine hK _ ?_;clear hK K)|refine va fun K hK=>?_|refine vb ?_|refine wc ?_ ?_|exact we|refine fun (hc:_=(_:Bool))=>?_|clear hK K))
  rw [ppoint,if_pos he]
@[go_sem] noncomputable def zcn:Ent Tryz.prog 121:= .m5 zp zt zdG (intT .i64) zf1 zl8
open Go Go.Proofs
def reachJ (d:Disk) (p:Plan) (t:Int):Nat→Int→List Int→List Int×Int
 |0,_,l=>(l,0)
 |m+1,k,l=>if (eget d p t k).2≠0 then ([],(eget d p t k).2) else reachJ d p t m (k+1) (if (eget d p t k).1.kind=1 then l++ [(eget d p t k).1.loc] else l)
def reachI (d:Disk) (p:Plan) (l1:Int):Nat→Int→List Int→List Int×Int
 |0,_,l=>(l,0)
 |m+1,i,l=>if (eget d p l1 i).2≠0 then ([],(eget d p l1 i).2) else if (eget d p l1 i).1.kind=2 then ([],14)
  else if (eget d p l1 i).1.kind=0 then reachI d p l1 m (i+1) l
  else if (reachJ d p (eget d p l1 i).1.loc 16 0 (l++ [(eget d p l1 i).1.loc])).2≠0 then ([],(reachJ d p (eget d p l1 i).1.loc 16 0 (l++ [(eget d p l1 i).1.loc])).2)
  else reachI d p l1 m (i+1) (reachJ d p (eget d p l1 i).1.loc 16 0 (l++ [(eget d p l1 i).1.loc])).1
def reach (d:Disk) (p:Plan) (l1:Int):List Int×Int:=reachI d p l1 4 0 []
theorem zfD {m n:Nat} (h:m<n):n - m=(n - (m+1))+1:=by omega
theorem zl9 (d:Disk) (p:Plan) (l1:Int) (h:DP d p):AC 50 [diskA d,planA p,.d (.int .i64 l1)] (.tup [.d (.sl 1 ((reach d p l1).1.map intD)),.d (.int .i64 (reach d p l1).2)]):=by
 refine fbod Tryz.func50 Tryz.ntmps50 (fun base=>?_)
 (have tk:=za zas <| zb Tryz.prog;repeat' (first|(refine hK _ ?_;clear hK K)|refine va fun K hK=>?_|refine vb ?_|refine wc ?_ ?_|refine fun (nb:Bool) (hnb:nb=true→_)=>?_|exact we|refine fun (hc:_=(_:Bool))=>?_|clear hK K))
 refine zcT 8 1 rfl ?_
 simp only [fresh,top,hget, ↓reduceIte]
 refine zn (fun q: { q:Nat×List Int // q.1≤4∧q.2.length≤17*q.1∧reach d p l1=reachI d p l1 (4 - q.1) q.1 q.2 } =>⟨[(2,true,.d (.int .i64 l1)),(3,true,.vp 0 0),(4,true,.vp 1 0),(8,true,.osl 2 1 q.1.2.length 0 q.1.2.length),(9,true,.d (.int .i64 q.1.1))],[(2,.arr 1 (q.1.2.map intD)),(1,(.var [.d (.sl 1 (p.targets.map intD)),.d (.sl 1 (p.texts.map strD))])),(0,(.var [.d (.str d.data),.d (.sl 2 (d.cache.map putD)),.d (.int .i64 d.fuse),.d (.bool d.off),.d (.sl 1 (d.bad.map intD))]))],some []⟩) (fun q=>4 - q.1.1) ⟨(0,[]),Nat.zero_le 4,Nat.zero_le 0,rfl⟩ le1 (fun q=>?_)
 obtain ⟨⟨i,l⟩,hi,hll,hf⟩:=q
 simp only at hi hll hf ⊢
 rcases Nat.lt_or_ge i 4 with hlt|hge
 ·have hcmp:decide ((i:Int)<4)=true:=decide_eq_true (by omega)
  have hwi:=zq (i:=i) (by omega)
  rw [zfD hlt,reachI] at hf
  obtain ⟨X,hX⟩:∃X,X=eget d p l1 i:=⟨_,rfl⟩
  rw [← hX] at hf
  (have tk:=za zas <| zb Tryz.prog;have fx:=(⟨hcmp,hX.symm⟩:_∧_);repeat' (first|(refine hK _ ?_;clear hK K)|refine va fun K hK=>?_|refine vb ?_|refine wc ?_ ?_|refine fun (nb:Bool) (hnb:nb=true→_)=>?_|exact we|refine fun (hc:_=(_:Bool))=>?_|clear hK K))
  ·have hc:X.2≠0:=by simpa using hc
   rw [hf,if_pos hc]
   rfl
  ·rename_i c0
   have c0:¬X.2≠0:=by simpa using c0
   have hc:X.1.kind=2:=by simpa using hc
   rw [hf,if_neg c0,if_pos hc]
   rfl
  ·rename_i c0 c1
   have c0:¬X.2≠0:=by simpa using c0
   have c1:¬X.1.kind=2:=by simpa using c1
   have hc:X.1.kind=0:=by simpa using hc
   rw [if_neg c0,if_neg c1,if_pos hc] at hf
   exact ⟨⟨(i+1,l),by omega,by simp only;omega,hf⟩,lew,by simp;omega⟩
  rename_i c0 c1
  have c0:¬X.2≠0:=by simpa using c0
  have c1:¬X.1.kind=2:=by simpa using c1
  have c2:¬X.1.kind=0:=by simpa using hc
  clear hc
  rw [if_neg c0,if_neg c1,if_neg c2] at hf
  obtain ⟨M,hM⟩:∃M,M=l++ [X.1.loc]:=⟨_,rfl⟩
  have hMr:l.map intD++ [[D.int .i64 X.1.loc]]=M.map intD:=by rw [hM,List.map_append];rfl
  have hMl:l.length+1=M.length:=by rw [hM];simp
  rw [← hM] at hf
  obtain ⟨RJ,hRJ⟩:∃RJ,RJ=reachJ d p X.1.loc 16 0 M:=⟨_,rfl⟩
  rw [← hRJ] at hf
  rw [hMr,hMl]
  refine zn (fun q: { q:Nat×List Int // q.1≤16∧q.2.length≤17*i+1+q.1∧RJ=reachJ d p X.1.loc (16 - q.1) q.1 q.2 } =>⟨[(2,true,.d (.int .i64 l1)),(3,true,.vp 0 0),(4,true,.vp 1 0),(8,true,.osl 2 1 q.1.2.length 0 q.1.2.length),(9,true,.d (.int .i64 i)),(10,true,.vp 3 0),(12,true,.d (.int .i64 q.1.1))],[(3,.var [.d (.int .i64 X.1.kind),.d (.int .i64 X.1.loc)]),(2,.arr 1 (q.1.2.map intD)),(1,(.var [.d (.sl 1 (p.targets.map intD)),.d (.sl 1 (p.texts.map strD))])),(0,(.var [.d (.str d.data),.d (.sl 2 (d.cache.map putD)),.d (.int .i64 d.fuse),.d (.bool d.off),.d (.sl 1 (d.bad.map intD))]))],some []⟩) (fun q=>16 - q.1.1) ⟨(0,M),Nat.zero_le 16,by simp only;omega,hRJ⟩ le1 (fun q=>?_)
  obtain ⟨⟨k,m⟩,hk,hml,hfj⟩:=q
  simp only at hk hml hfj ⊢
  rcases Nat.lt_or_ge k 16 with hkt|hkge
  ·have hcmpk:decide ((k:Int)<16)=true:=decide_eq_true (by omega)
   have hwk:=zq (i:=k) (by omega)
   rw [zfD hkt,reachJ] at hfj
   obtain ⟨Y,hY⟩:∃Y,Y=eget d p X.1.loc k:=⟨_,rfl⟩
   rw [← hY] at hfj
   (have tk:=za zas <| zb Tryz.prog;have fx:=(⟨hcmpk,hY.symm⟩:_∧_);repeat' (first|(refine hK _ ?_;clear hK K)|refine va fun K hK=>?_|refine vb ?_|refine wc ?_ ?_|refine fun (nb:Bool) (hnb:nb=true→_)=>?_|exact we|refine fun (hc:_=(_:Bool))=>?_|clear hK K))
   ·have hc:Y.2≠0:=by simpa using hc
    rw [if_pos hc] at hfj
    rw [hf,hfj,if_pos hc]
    rfl
   ·rename_i c3
    have c3:¬Y.2≠0:=by simpa using c3
    have hc:Y.1.kind=1:=by simpa using hc
    rw [if_neg c3,if_pos hc] at hfj
    exact ⟨⟨(k+1,m++ [Y.1.loc]),by omega,by simp only [List.length_append,List.length_singleton];omega,hfj⟩,by simp only [List.map_append,List.length_append,List.length_singleton];simp only [AS.le,leT,leH,zc,AsgK,AV.le,AV.leL,AObj.le,inH,idsT,idsH,AV.ids,AV.idsL,AV.idsR,AObj.ids,lk,hget,go_sem,aeq,aeq.aeqF,simprocAttr,hwk]<;>and_intros<;>rfl,by simp;omega⟩
   ·rename_i c3
    have c3:¬Y.2≠0:=by simpa using c3
    have hc:¬Y.1.kind=1:=by simpa using hc
    rw [if_neg c3,if_neg hc] at hfj
    exact ⟨⟨(k+1,m),by omega,by simp only;omega,hfj⟩,by simp only [AS.le,leT,leH,zc,AsgK,AV.le,AV.leL,AObj.le,inH,idsT,idsH,AV.ids,AV.idsL,AV.idsR,AObj.ids,lk,hget,go_sem,aeq,aeq.aeqF,simprocAttr,hwk],by simp;omega⟩
  ·have hcmpk:decide ((k:Int)<16)=false:=decide_eq_false (by omega)
   rw [show 16 - k=0 by omega,reachJ] at hfj
   rw [hfj,if_neg (show ¬(0:Int)≠0 by decide)] at hf
   (have tk:=za zas <| zb Tryz.prog;have fx:=hcmpk;repeat' (first|(refine hK _ ?_;clear hK K)|refine va fun K hK=>?_|refine vb ?_|refine wc ?_ ?_|refine fun (nb:Bool) (hnb:nb=true→_)=>?_|exact we|refine fun (hc:_=(_:Bool))=>?_|clear hK K))
   exact ⟨⟨(i+1,m),by omega,by simp only;omega,hf⟩,lew,by simp;omega⟩
 ·have hcmp:decide ((i:Int)<4)=false:=decide_eq_false (by omega)
  (have tk:=za zas <| zb Tryz.prog;have fx:=hcmp;repeat' (first|(refine hK _ ?_;clear hK K)|refine va fun K hK=>?_|refine vb ?_|refine wc ?_ ?_|refine fun (nb:Bool) (hnb:nb=true→_)=>?_|exact we|refine fun (hc:_=(_:Bool))=>?_|clear hK K))
  rw [hf,show 4 - i=0 by omega]
  rfl
@[go_sem] noncomputable def zS:Ent Tryz.prog 50:= .m3 zp zt (intT .i64) zl9
open Go Go.Proofs
theorem zqY {s:Txt} {i:Nat} (h:s.length=64):(slotB s i).length=16:=by
 unfold slotB
 rw [List.length_drop,List.length_take]
 omega
theorem zsI (s:Snp):(snpB s).1.length≤16:=by
 unfold snpB
 split
 ·decide
 split
 ·decide
 ·rename_i hc
  simp only [not_or,Bool.not_eq_false] at hc
  have:=(zd4 hc.2.1).1
  simp only [List.length_append,zB,List.length_cons,List.length_nil]
  omega
theorem div4 {i:Nat} (h:i<8):IntKind.i64.wrap ((i:Int).tdiv 4)=((i / 4:Nat):Int):=by
 rw [Int.tdiv_eq_ediv_of_nonneg (by omega),zh (by omega) (by omega)];omega
theorem mod4 {i:Nat} :(i:Int).tmod 4=((i % 4:Nat):Int):=by
 rw [Int.tmod_eq_emod_of_nonneg (by omega)];omega
theorem zmv (d:Disk) (p:Plan) (h:DP d p):AC 127 [diskA d,planA p] (.tup [.d (.sl 3 ((snaps d p).1.map snpD)),.d (.int .i64 (snaps d p).2)]):=by
 refine fbod Tryz.func127 Tryz.ntmps127 (fun base=>?_)
 have h1:=h.dok
 have h2:=h.pok
 have h3:=h.plen
 (have tk:=za zr <| za zY <| za zE <| za zay <| za zae <| zb Tryz.prog;repeat' (first|(refine hK _ ?_;clear hK K)|refine wa fun K hK=>?_|refine wb ?_|refine wc ?_ ?_|refine wl ?_|refine fun (nb:Bool) (hnb:nb=true→_)=>?_|exact we|refine fun (hc:_=(_:Bool))=>?_|clear hK K))
 refine zcT 6 3 rfl ?_
 simp only [fresh,top,hget, ↓reduceIte]
 refine zn (fun q: { q:Nat×List Snp // q.1≤8∧q.2.length=q.1∧snaps d p=snapsK d p (8 - q.1) q.1 q.2 } =>⟨[(2,true,.vp 0 0),(3,true,.vp 1 0),(6,true,.osl 2 3 q.1.1 0 q.1.1),(7,true,.d (.int .i64 q.1.1))],[(2,.arr 3 (q.1.2.map snpD)),(1,(.var [.d (.sl 1 (p.targets.map intD)),.d (.sl 1 (p.texts.map strD))])),(0,(.var [.d (.str d.data),.d (.sl 2 (d.cache.map putD)),.d (.int .i64 d.fuse),.d (.bool d.off),.d (.sl 1 (d.bad.map intD))]))],some []⟩) (fun q=>8 - q.1.1) ⟨(0,[]),Nat.zero_le 8,rfl,rfl⟩ le1 (fun q=>?_)
 obtain ⟨⟨i,l⟩,hi,hll,hf⟩:=q
 simp only at hi hll hf ⊢
 rcases Nat.lt_or_ge i 8 with hlt|hge
 ·have hcmp:decide ((i:Int)<8)=true:=decide_eq_true (by omega)
  have hwi:=zq (i:=i) (by omega)
  have hq4:=div4 hlt
  have hm4:=mod4 (i:=i)
  have hw2:IntKind.i64.wrap (2+((i / 4:Nat):Int))=2+((i / 4:Nat):Int):=zh (by omega) (by omega)
  have hw3:IntKind.i64.wrap (((i % 4:Nat):Int)*16)=((i % 4*16:Nat):Int):=by rw [zh (by omega) (by omega)];omega
  have hw4:IntKind.i64.wrap (((i % 4:Nat):Int)+1)=((i % 4+1:Nat):Int):=by rw [zh (by omega) (by omega)];omega
  have hw5:IntKind.i64.wrap (((i % 4+1:Nat):Int)*16)=(((i % 4+1)*16:Nat):Int):=by rw [zh (by omega) (by omega)];omega
  rw [zfD hlt,snapsK] at hf
  by_cases he:(plook d p (2+((i / 4:Nat):Int))).2=0
  ·have hb:((plook d p (2+((i / 4:Nat):Int))).2 !=0)=false:=by simpa using he
   have h64:=zb0 h he
   rw [if_neg (by simpa using he)] at hf
   obtain ⟨S,hS⟩:∃S,S=(plook d p (2+((i / 4:Nat):Int))).1:=⟨_,rfl⟩
   rw [← hS] at hf h64
   have hsl:List.drop (i % 4*16) (List.take ((i % 4+1)*16) S)=slotB S i:=rfl
   have hB16:=zqY (i:=i) h64
   obtain ⟨B,hB⟩:∃B,B=slotB S i:=⟨_,rfl⟩
   rw [← hB] at hf hB16 hsl
   have hlm:(l.map snpD).length=i:=by rw [List.length_map,hll]
   (have tk:=za zr <| za zY <| za zE <| za zay <| za zae <| zb Tryz.prog;have fx:=(⟨hcmp,hq4,hm4,hw2,hw3,hw4,hw5,hb,hS.symm,hsl⟩:_∧_∧_∧_∧_∧_∧_∧_∧_∧_);repeat' ((fail_if_success refine hds 10 (by rfl) ?_);first|(refine hK _ ?_;clear hK K)|refine wa fun K hK=>?_|refine wb ?_|refine wc ?_ ?_|refine wl ?_|refine fun (nb:Bool) (hnb:nb=true→_)=>?_|exact we|refine fun (hc:_=(_:Bool))=>?_|clear hK K))
   obtain ⟨T,hT⟩:∃T,T=snpT B:=⟨_,rfl⟩
   obtain ⟨g1,g2,g3,g4,g5⟩:=zjl B
   rw [← hT] at hf g1 g2 g3 g4 g5
   have hBl:B.length≤9223372036854775807:=by omega
   refine zpC ⟨[(2,true,.vp 0 0),(3,true,.vp 1 0),(6,true,.osl 2 3 i 0 i),(7,true,.d (.int .i64 i)),(8,true,.d (.str B)),(10,true,.vp 3 0)],[(3,.var [.d (.int .u32 T.id),.d (.int .i64 T.l1),.d (.str T.name)]),(2,.arr 3 (l.map snpD)),(1,(.var [.d (.sl 1 (p.targets.map intD)),.d (.sl 1 (p.texts.map strD))])),(0,(.var [.d (.str d.data),.d (.sl 2 (d.cache.map putD)),.d (.int .i64 d.fuse),.d (.bool d.off),.d (.sl 1 (d.bad.map intD))]))],some []⟩ ?_ ?_
   ·by_cases hz:B=z16
    ·have hbz:(B != [0,0,0,0,0,0,0,0,0,0,0,0,0,0,0,0])=false:=by rw [hz];rfl
     have hT0:T=⟨0,0,[]⟩:=by rw [hT,snpT,if_pos hz];rfl
     rw [hT0]
     (have tk:=za zr <| za zY <| za zE <| za zay <| za zae <| zb Tryz.prog;have fx:=hbz;repeat' (first|(refine hK _ ?_;clear hK K)|refine wa fun K hK=>?_|refine wb ?_|refine wc ?_ ?_|refine wl ?_|refine fun (nb:Bool) (hnb:nb=true→_)=>?_|exact we|refine fun (hc:_=(_:Bool))=>?_|clear hK K))
    ·have hbz:(B != [0,0,0,0,0,0,0,0,0,0,0,0,0,0,0,0])=true:=by
      have:B≠ [0,0,0,0,0,0,0,0,0,0,0,0,0,0,0,0]:=hz
      simpa using this
     have hTR:T=snpR B:=by rw [hT,snpT,if_neg hz]
     have ht4:=zcd (s:=B) (z:=4) 4 rfl (by omega) (by omega) (by omega)
     have ht2:=zcd (s:=B.drop 4) (z:=2) 2 rfl (by omega) (by omega) (by rw [List.length_drop];omega)
     have htk:List.take B.length B=B:=List.take_length
     have hL1:(List.drop 4 B).length≤9223372036854775807:=by rw [List.length_drop];omega
     have hL2:(List.drop 8 B).length≤9223372036854775807:=by rw [List.length_drop];omega
     have hu1:IntKind.u32.wrap T.id=T.id:=ze3 g1 g2
     have hu2:IntKind.i64.wrap T.l1=T.l1:=zh (by omega) (by omega)
     rw [hTR] at hu1 hu2 ⊢
     simp only [snpR] at hu1 hu2 ⊢
     (have tk:=za zr <| za zY <| za zE <| za zay <| za zae <| zb Tryz.prog;have fx:=(⟨hbz,ht4,ht2,htk,hu1,hu2⟩:_∧_∧_∧_∧_∧_);repeat' (first|(refine hK _ ?_;clear hK K)|refine wa fun K hK=>?_|refine wb ?_|refine wc ?_ ?_|refine wl ?_|refine fun (nb:Bool) (hnb:nb=true→_)=>?_|exact we|refine fun (hc:_=(_:Bool))=>?_|clear hK K))
   ·have hlt2:l.length+1≤8:=by omega
    have hok:snpOk B=((snpB T).2&&((snpB T).1==B)):=by rw [snpOk,← hT]
    cases ho:snpOk B with
    | true=>
     rw [ho,if_pos rfl] at hf
     rw [ho] at hok
     have hc1:(!(snpB T).2||(snpB T).1 !=B)=false:=by
      have:=hok.symm
      rw [Bool.and_eq_true] at this
      simp only [Bool.or_eq_false_iff,Bool.not_eq_false']
      exact ⟨this.1,by simpa using this.2⟩
     (have tk:=za zr <| za zY <| za zE <| za zay <| za zae <| zb Tryz.prog;have fx:=(⟨hc1,hlm⟩:_∧_);repeat' (first|(refine hK _ ?_;clear hK K)|refine wa fun K hK=>?_|refine wb ?_|refine wc ?_ ?_|refine wl ?_|refine fun (nb:Bool) (hnb:nb=true→_)=>?_|exact we|refine fun (hc:_=(_:Bool))=>?_|clear hK K))
     exact ⟨⟨(i+1,l++ [T]),by omega,by simp [hll],hf⟩,by simp only [List.map_append];simp only [AS.le,leT,leH,zc,AsgK,AV.le,AV.leL,AObj.le,inH,idsT,idsH,AV.ids,AV.idsL,AV.idsR,AObj.ids,lk,hget,go_sem,aeq,aeq.aeqF,simprocAttr,hwi]<;>and_intros<;>rfl,by simp;omega⟩
    | false=>
     rw [ho,if_neg (by decide)] at hf
     rw [ho] at hok
     have hc1:(!(snpB T).2||(snpB T).1 !=B)=true:=by
      have:=hok.symm
      rw [Bool.and_eq_false_iff] at this
      rcases this with h|h
      ·simp [h]
      ·simp only [Bool.or_eq_true,bne_iff_ne,ne_eq]
       exact .inr (by simpa using h)
     (have tk:=za zr <| za zY <| za zE <| za zay <| za zae <| zb Tryz.prog;have fx:=hc1;repeat' (first|(refine hK _ ?_;clear hK K)|refine wa fun K hK=>?_|refine wb ?_|refine wc ?_ ?_|refine wl ?_|refine fun (nb:Bool) (hnb:nb=true→_)=>?_|exact we|refine fun (hc:_=(_:Bool))=>?_|clear hK K))
     rw [hf]
     rfl
  ·have hb:((plook d p (2+((i / 4:Nat):Int))).2 !=0)=true:=by simpa using he
   (have tk:=za zr <| za zY <| za zE <| za zay <| za zae <| zb Tryz.prog;have fx:=(⟨hcmp,hq4,hw2,hb⟩:_∧_∧_∧_);repeat' (first|(refine hK _ ?_;clear hK K)|refine wa fun K hK=>?_|refine wb ?_|refine wc ?_ ?_|refine wl ?_|refine fun (nb:Bool) (hnb:nb=true→_)=>?_|exact we|refine fun (hc:_=(_:Bool))=>?_|clear hK K))
   rw [hf,if_pos he]
   rfl
 ·have hcmp:decide ((i:Int)<8)=false:=decide_eq_false (by omega)
  (have tk:=za zr <| za zY <| za zE <| za zay <| za zae <| zb Tryz.prog;have fx:=hcmp;repeat' (first|(refine hK _ ?_;clear hK K)|refine wa fun K hK=>?_|refine wb ?_|refine wc ?_ ?_|refine wl ?_|refine fun (nb:Bool) (hnb:nb=true→_)=>?_|exact we|refine fun (hc:_=(_:Bool))=>?_|clear hK K))
  have him:i=8:=by omega
  subst him
  rw [if_pos hll.symm,List.take_of_length_le (by simp;omega),hf]
  rfl
@[go_sem] noncomputable def zco:Ent Tryz.prog 127:= .m2 zp zt zmv
theorem div4i {i:Int} (h0:0≤i) (h:i<8):IntKind.i64.wrap (i.tdiv 4)=i / 4:=by
 rw [Int.tdiv_eq_ediv_of_nonneg h0];exact zh (by omega) (by omega)
theorem zjt (d:Disk) (p:Plan) (i:Int) (s:Snp) (hp:DP d p∧0≤s.id∧s.id≤4294967295∧s.name.length≤9223372036854775807):AC 87 [diskA d,planA p,.d (.int .i64 i),snpA s] (.tup [planA (setsnap d p i s).1,.d (.int .i64 (setsnap d p i s).2)]):=by
 obtain ⟨h,h0,h1,hn⟩:=hp
 refine fbod Tryz.func87 Tryz.ntmps87 (fun base=>?_)
 have hd1:=h.dok
 have hd2:=h.puts
 have hd3:=h.p
 by_cases hi:i<0∨8≤i
 ·have hdec:(decide (i<0)||decide (8≤i))=true:=by simpa using hi
  (have tk:=za zae <| za z6 <| zb Tryz.prog;have fx:=hdec;repeat' (first|(refine hK _ ?_;clear hK K)|refine wa fun K hK=>?_|refine wb ?_|refine wc ?_ ?_|refine wl ?_|exact we|refine fun (hc:_=(_:Bool))=>?_|clear hK K))
  rw [setsnap,if_pos hi]
 have hdec:(decide (i<0)||decide (8≤i))=false:=by simpa using hi
 have hq:=div4i (i:=i) (by omega) (by omega)
 have hm:i.tmod 4=i % 4:=Int.tmod_eq_emod_of_nonneg (by omega)
 have hw1:IntKind.i64.wrap (2+i / 4)=2+i / 4:=zh (by omega) (by omega)
 have hw2:IntKind.i64.wrap (i % 4*16)=i % 4*16:=zh (by omega) (by omega)
 have hbl:(snpB s).1.length≤9223372036854775807:=by have:=zsI s;omega
 cases ho:(snpB s).2 with
 |false=>
  (have tk:=za zae <| za z6 <| zb Tryz.prog;have fx:=(⟨hdec,ho⟩:_∧_);repeat' (first|(refine hK _ ?_;clear hK K)|refine wa fun K hK=>?_|refine wb ?_|refine wc ?_ ?_|refine wl ?_|exact we|refine fun (hc:_=(_:Bool))=>?_|clear hK K))
  rw [setsnap,if_neg hi,if_pos ho]
 |true=>
  (have tk:=za zae <| za z6 <| zb Tryz.prog;have fx:=(⟨hdec,ho,hq,hm,hw1,hw2⟩:_∧_∧_∧_∧_∧_);repeat' (first|(refine hK _ ?_;clear hK K)|refine wa fun K hK=>?_|refine wb ?_|refine wc ?_ ?_|refine wl ?_|exact we|refine fun (hc:_=(_:Bool))=>?_|clear hK K))
  rw [setsnap,if_neg hi,if_neg (by rw [ho];decide)]
@[go_sem] noncomputable def zaF:Ent Tryz.prog 87:= .m4 zp zt (intT .i64) znn zjt
open Go Go.Proofs
def cutL (s:Txt):Txt:=s.dropWhile (· ==0)
theorem zsM (s:Txt) (hs:s.length≤9223372036854775807):ACall Tryz.prog 303 0 [.d (.str s),.d (.int .u8 0)] [] (fun r _=>r= .d (.str (cutL s))):=by
 refine fbod Tryz.func303 Tryz.ntmps303 (fun base=>?_)
 (repeat' (first|(refine hK _ ?_;clear hK K)|refine wa fun K hK=>?_|refine wb ?_|refine wc ?_ ?_|exact we|refine fun (hc:_=(_:Bool))=>?_|clear hK K))
 refine zn (fun q: { t:Txt // t.length≤s.length∧cutL s=cutL t } =>⟨[(0,true,.d (.str q.1)),(1,true,.d (.int .u8 0))],[],some []⟩) (fun q=>q.1.length) ⟨s,Nat.le_refl _,rfl⟩ le0 (fun q=>?_)
 obtain ⟨t,hl,hf⟩:=q
 simp only at hl hf ⊢
 cases t with
 |nil=>
  have h0:decide ((0:Int)<(([]:Txt).length:Int))=false:=rfl
  (have fx:=h0;repeat' (first|(refine hK _ ?_;clear hK K)|refine wa fun K hK=>?_|refine wb ?_|refine wc ?_ ?_|exact we|refine fun (hc:_=(_:Bool))=>?_|clear hK K))
  rw [hf]
  rfl
 | cons c t=>
  have h0:decide ((0:Int)<((t.length+1:Nat):Int))=true:=decide_eq_true (by omega)
  have h1:List.drop 1 (c::t)=t:=rfl
  have hg0:List.getD (c::t) 0 0=c:=rfl
  simp only [List.length_cons] at hl
  by_cases hz:c=0
  ·have hz2:((c.toNat:Int)==0)=true:=by rw [hz];rfl
   (have fx:=(⟨h0,h1,hg0,hz2⟩:_∧_∧_∧_);repeat' (first|(refine hK _ ?_;clear hK K)|refine wa fun K hK=>?_|refine wb ?_|refine wc ?_ ?_|exact we|refine fun (hc:_=(_:Bool))=>?_|clear hK K))
   all_goals first|omega|skip
   exact ⟨⟨t,by omega,by rw [hf,hz];simp [cutL,List.dropWhile_cons]⟩,by simp only [AS.le,leT,leH,zc,AsgK,AV.le,AV.leL,AObj.le,inH,idsT,idsH,AV.ids,AV.idsL,AV.idsR,AObj.ids,lk,hget,go_sem,aeq,aeq.aeqF,simprocAttr],by simp⟩
  ·have hz2:((c.toNat:Int)==0)=false:=by
    rw [beq_eq_false_iff_ne]
    intro h
    exact hz (UInt8.toNat_inj.1 (by simpa using h))
   (have fx:=(⟨h0,h1,hg0,hz2⟩:_∧_∧_∧_);repeat' (first|(refine hK _ ?_;clear hK K)|refine wa fun K hK=>?_|refine wb ?_|refine wc ?_ ?_|exact we|refine fun (hc:_=(_:Bool))=>?_|clear hK K))
   have hcb:(c==0)=false:=by simpa using hz
   rw [hf,cutL,List.dropWhile_cons,hcb]
   rfl
@[go_sem] noncomputable def zeq:Ent Tryz.prog 303:= .ofL (consL strT (consL (zdi (.d (.int .u8 0))) nilL)) (fun (s,_,_)=>s.length≤9223372036854775807) (fun (s,_,_)=> .d (.str (cutL s))) (fun (s,_,_) hp=>⟨rfl,zsM s hp⟩)
theorem zsN (s:Txt) (hs:s.length≤9223372036854775807):ACall Tryz.prog 304 0 [.d (.str s),.d (.int .u8 0)] [] (fun r _=>r= .d (.str (cutZ s))):=by
 refine fbod Tryz.func304 Tryz.ntmps304 (fun base=>?_)
 (repeat' (first|(refine hK _ ?_;clear hK K)|refine wa fun K hK=>?_|refine wb ?_|refine wc ?_ ?_|exact we|refine fun (hc:_=(_:Bool))=>?_|clear hK K))
 refine zn (fun q: { t:Txt // t.length≤s.length∧cutZ s=cutZ t } =>⟨[(0,true,.d (.str q.1)),(1,true,.d (.int .u8 0))],[],some []⟩) (fun q=>q.1.length) ⟨s,Nat.le_refl _,rfl⟩ le0 (fun q=>?_)
 obtain ⟨t,hl,hf⟩:=q
 simp only at hl hf ⊢
 rcases List.eq_nil_or_concat t with rfl|⟨u,c,rfl⟩
 ·have h0:decide ((0:Int)<(([]:Txt).length:Int))=false:=rfl
  (have fx:=h0;repeat' (first|(refine hK _ ?_;clear hK K)|refine wa fun K hK=>?_|refine wb ?_|refine wc ?_ ?_|exact we|refine fun (hc:_=(_:Bool))=>?_|clear hK K))
  rw [hf]
  rfl
 ·rw [List.concat_eq_append] at hl hf ⊢
  have hln:(u++ [c]).length=u.length+1:=by simp
  have h0:decide ((0:Int)<((u.length+1:Nat):Int))=true:=decide_eq_true (by omega)
  have hw:IntKind.i64.wrap (((u.length+1:Nat):Int) - 1)=(u.length:Int):=by rw [zh (by omega) (by omega)];omega
  have h1:List.take u.length (u++ [c])=u:=by simp
  have hg0:List.getD (u++ [c]) u.length 0=c:=by simp
  by_cases hz:c=0
  ·have hz2:((c.toNat:Int)==0)=true:=by rw [hz];rfl
   (have fx:=(⟨hln,h0,hw,@Int.toNat_natCast,h1,hg0,hz2⟩:_∧_∧_∧_∧_∧_∧_);repeat' (first|(refine hK _ ?_;clear hK K)|refine wa fun K hK=>?_|refine wb ?_|refine wc ?_ ?_|exact we|refine fun (hc:_=(_:Bool))=>?_|clear hK K))
   all_goals first|omega|skip
   exact ⟨⟨u,by omega,by rw [hf,hz,zg5]⟩,by simp only [AS.le,leT,leH,zc,AsgK,AV.le,AV.leL,AObj.le,inH,idsT,idsH,AV.ids,AV.idsL,AV.idsR,AObj.ids,lk,hget,go_sem,aeq,aeq.aeqF,simprocAttr],by simp⟩
  ·have hz2:((c.toNat:Int)==0)=false:=by
    rw [beq_eq_false_iff_ne]
    intro h
    exact hz (UInt8.toNat_inj.1 (by simpa using h))
   (have fx:=(⟨hln,h0,hw,@Int.toNat_natCast,h1,hg0,hz2⟩:_∧_∧_∧_∧_∧_∧_);repeat' (first|(refine hK _ ?_;clear hK K)|refine wa fun K hK=>?_|refine wb ?_|refine wc ?_ ?_|exact we|refine fun (hc:_=(_:Bool))=>?_|clear hK K))
   all_goals first|omega|skip
   rw [hf,zfB _ _ hz]
@[go_sem] noncomputable def zer:Ent Tryz.prog 304:= .ofL (consL strT (consL (zdi (.d (.int .u8 0))) nilL)) (fun (s,_,_)=>s.length≤9223372036854775807) (fun (s,_,_)=> .d (.str (cutZ s))) (fun (s,_,_) hp=>⟨rfl,zsN s hp⟩)
theorem znz (s:Txt):(cutZ s).length≤s.length:=by
 have h:∀l:Txt,(l.dropWhile (· ==0)).length≤l.length:=fun l=>List.IsSuffix.length_le (List.dropWhile_suffix _)
 unfold cutZ
 rw [List.length_reverse]
 refine Nat.le_trans (h _) ?_
 rw [List.length_reverse]
 exact Nat.le_refl _
theorem zt8 (s:Txt) (hs:s.length≤9223372036854775807):ACall Tryz.prog 289 0 [.d (.str s),.d (.str [0])] [] (fun r _=>r= .d (.str (cutL (cutZ s)))):=by
 refine fbod Tryz.func289 Tryz.ntmps289 (fun base=>?_)
 have hcl:=znz s
 cases s with
 |nil=>
  (have tk:=za zeq <| za zer <| zb Tryz.prog;repeat' (first|(refine hK _ ?_;clear hK K)|refine wa fun K hK=>?_|refine wb ?_|refine wc ?_ ?_|exact we|refine fun (hc:_=(_:Bool))=>?_|clear hK K))
  rfl
 |cons c s=>
  have hb:(c::s==([]:Txt))=false:=rfl
  have hb2:(([0]:Txt)==([]:Txt))=false:=rfl
  (have tk:=za zeq <| za zer <| zb Tryz.prog;have fx:=(⟨hb,hb2⟩:_∧_);repeat' (first|(refine hK _ ?_;clear hK K)|refine wa fun K hK=>?_|refine wb ?_|refine wc ?_ ?_|exact we|refine fun (hc:_=(_:Bool))=>?_|clear hK K))
  all_goals first|omega|decide|rfl|(simp only [List.length_cons] at hs;omega)|skip
@[go_sem] noncomputable def zds:Ent Tryz.prog 289:= .ofL (consL strT (consL (zdi (.d (.str [0]))) nilL)) (fun (s,_,_)=>s.length≤9223372036854775807) (fun (s,_,_)=> .d (.str (cutL (cutZ s)))) (fun (s,_,_) hp=>⟨rfl,zt8 s hp⟩)
theorem zk8 (s:Txt) (hs:s.length≤9223372036854775807):ACall Tryz.prog 310 0 [.d (.str s),.d (.str [0])] [] (fun r _=>r= .d (.str (cutZ s))):=by
 refine fbod Tryz.func310 Tryz.ntmps310 (fun base=>?_)
 cases s with
 |nil=>
  (have tk:=za zeq <| za zer <| zb Tryz.prog;repeat' (first|(refine hK _ ?_;clear hK K)|refine wa fun K hK=>?_|refine wb ?_|refine wc ?_ ?_|exact we|refine fun (hc:_=(_:Bool))=>?_|clear hK K))
  rfl
 |cons c s=>
  have hb:(c::s==([]:Txt))=false:=rfl
  have hb2:(([0]:Txt)==([]:Txt))=false:=rfl
  (have tk:=za zeq <| za zer <| zb Tryz.prog;have fx:=(⟨hb,hb2⟩:_∧_);repeat' (first|(refine hK _ ?_;clear hK K)|refine wa fun K hK=>?_|refine wb ?_|refine wc ?_ ?_|exact we|refine fun (hc:_=(_:Bool))=>?_|clear hK K))
  all_goals first|omega|decide|rfl|(simp only [List.length_cons] at hs;omega)|skip
@[go_sem] noncomputable def zdc:Ent Tryz.prog 310:= .ofL (consL strT (consL (zdi (.d (.str [0]))) nilL)) (fun (s,_,_)=>s.length≤9223372036854775807) (fun (s,_,_)=> .d (.str (cutZ s))) (fun (s,_,_) hp=>⟨rfl,zk8 s hp⟩)
theorem zq1 (s:Txt) (hs:s.length≤9223372036854775807):AC 290 [.d (.str s)] (.tup [.d (.str (zdo s).1),.d (.int .i64 (zdo s).2)]):=by
 refine fbod Tryz.func290 Tryz.ntmps290 (fun base=>?_)
 have hcl:=znz s
 by_cases h8:s.length=8
 ·have hb:((s.length:Int) !=8)=false:=by rw [h8];rfl
  have htn:zdo s=if zan (cutZ s) then (cutZ s,0) else ([],19):=by rw [zdo,if_neg (fun h=>h h8)]
  cases hn:zan (cutZ s) with
  |true=>
   (have tk:=za zdc <| za zeg <| zb Tryz.prog;have fx:=(⟨hb,hn⟩:_∧_);repeat' (first|(refine hK _ ?_;clear hK K)|refine wa fun K hK=>?_|refine wb ?_|refine wc ?_ ?_|exact we|refine fun (hc:_=(_:Bool))=>?_|clear hK K))
   all_goals first|omega|rw [htn,hn];rfl
  |false=>
   (have tk:=za zdc <| za zeg <| zb Tryz.prog;have fx:=(⟨hb,hn⟩:_∧_);repeat' (first|(refine hK _ ?_;clear hK K)|refine wa fun K hK=>?_|refine wb ?_|refine wc ?_ ?_|exact we|refine fun (hc:_=(_:Bool))=>?_|clear hK K))
   all_goals first|omega|rw [htn,hn];rfl
 ·have hb:((s.length:Int) !=8)=true:=by simp;omega
  (have tk:=za zdc <| za zeg <| zb Tryz.prog;have fx:=hb;repeat' (first|(refine hK _ ?_;clear hK K)|refine wa fun K hK=>?_|refine wb ?_|refine wc ?_ ?_|exact we|refine fun (hc:_=(_:Bool))=>?_|clear hK K))
  rw [zdo,if_pos h8]
@[go_sem] noncomputable def zmy:Ent Tryz.prog 290:= .m1 strT zq1
theorem zq2 (n:Int) (hp:0≤n∧n≤140737488355328):AC 270 [.d (.int .i64 n)] (.d (.str (List.replicate n.toNat 0))):=by
 obtain ⟨h0,h1⟩:=hp
 refine fbod Tryz.func270 Tryz.ntmps270 (fun base=>?_)
 (have tk:=za zdA <| zb Tryz.prog;repeat' (first|(refine hK _ ?_;clear hK K)|refine wa fun K hK=>?_|refine wb ?_|refine wc ?_ ?_|exact we|clear hK K))
@[go_sem] noncomputable def zhj:Ent Tryz.prog 270:= .m1 (intT .i64) zq2
theorem zmz (b:Txt) (hb:b.length=16):AC 250 [.d (.str b)] (snpA (snpR b)):=by
 refine fbod Tryz.func250 Tryz.ntmps250 (fun base=>?_)
 have ht4:=zcd (s:=b) (z:=4) 4 rfl (by omega) (by omega) (by omega)
 have ht2:=zcd (s:=b.drop 4) (z:=2) 2 rfl (by omega) (by omega) (by rw [List.length_drop];omega)
 have hL2:(List.drop 8 b).length≤9223372036854775807:=by rw [List.length_drop];omega
 have h1:=zbj (l:=b.take 4) (i:=4) (by rw [List.length_take];omega)
 have h2:=zbj (l:=(b.drop 4).take 2) (i:=2) (by rw [List.length_take];omega)
 have hu1:IntKind.u32.wrap ((takeN (b.take 4):Nat):Int)=((takeN (b.take 4):Nat):Int):=ze3 (by omega) (by omega)
 have hu2:IntKind.i64.wrap ((takeN ((b.drop 4).take 2):Nat):Int)=((takeN ((b.drop 4).take 2):Nat):Int):=zh (by omega) (by omega)
 have hz0:List.drop (Int.toNat 0) b=b:=rfl
 have hz4:List.drop (Int.toNat 4) b=List.drop 4 b:=rfl
 have hln:((b.length:Nat):Int)=16:=by omega
 (have tk:=za zmy <| za zd3 <| zb Tryz.prog;have fx:=(⟨hz0,hz4,ht4,ht2,hu1,hu2⟩:_∧_∧_∧_∧_∧_);repeat' (first|(refine hK _ ?_;clear hK K)|refine wa fun K hK=>?_|refine wb ?_|refine wc ?_ ?_|exact we|clear hK K))
 all_goals first|omega|rfl|skip
@[go_sem] noncomputable def za7:Ent Tryz.prog 250:= .m1 strT zmz
def wsnp (s:Snp):Txt:=if s.id=0∧s.l1=0∧s.name= [] then z16 else putN s.id.toNat 4++putN (IntKind.u64.wrap s.l1).toNat 2++ [0,0]++(nameS s.name).1
theorem zt9 {s:Snp} (h:(snpB s).2=true):wsnp s=(snpB s).1:=by
 unfold snpB at h ⊢
 unfold wsnp
 split
 ·rfl
 rename_i h1
 rw [if_neg h1] at h
 split
 ·rename_i h2;rw [if_pos h2] at h;cases h
 ·rename_i h2
  simp only [not_or,Bool.not_eq_false] at h2
  have hk:=hostOk_iff.1 h2.2.2
  rw [zR (by omega) (by omega)]
theorem zq3 {s:Snp} (h0:0≤s.id) (hz:¬(s.id=0∧s.l1=0∧s.name= [])):(zan s.name&&decide (0<s.id)&&zD s.l1)=(snpB s).2:=by
 unfold snpB
 rw [if_neg hz]
 split
 ·rename_i h2
  rcases h2 with h2|h2|h2
  ·rw [h2];simp
  ·rw [h2];simp
  ·rw [h2];simp
 ·rename_i h2
  simp only [not_or,Bool.not_eq_false] at h2
  have:0<s.id:=by omega
  simp [h2.2.1,h2.2.2,this]
theorem zla (s:Snp) (hp:0≤s.id∧s.id≤4294967295∧s.name.length≤9223372036854775807):AC 223 [snpA s] (.tup [.d (.str (wsnp s)),.d (.bool (snpB s).2)]):=by
 obtain ⟨h0,h1,hn⟩:=hp
 refine fbod Tryz.func223 Tryz.ntmps223 (fun base=>?_)
 by_cases hz:s.id=0∧s.l1=0∧s.name= []
 ·have hb:(s.id==0&&(s.l1==0&&s.name== []))=true:=by simpa using hz
  have h16:List.replicate (Int.toNat 16) (0:UInt8)=z16:=rfl
  (have tk:=za zhj <| za zky <| za zbZ <| za zcY <| zb Tryz.prog;have fx:=(⟨hb,h16⟩:_∧_);repeat' (first|(refine hK _ ?_;clear hK K)|refine va fun K hK=>?_|refine vb ?_|refine wc ?_ ?_|exact we|refine fun (hc:_=(_:Bool))=>?_|clear hK K))
  rw [wsnp,snpB,if_pos hz,if_pos hz]
  rfl
 have hb:(s.id==0&&(s.l1==0&&s.name== []))=false:=by rw [Bool.eq_false_iff];simpa using hz
 have hw:IntKind.u64.wrap s.id=s.id:=zR h0 (by omega)
 have hw2:0≤IntKind.u64.wrap s.l1∧IntKind.u64.wrap s.l1<18446744073709551616:=by rw [IntKind.wrap_u64];omega
 have hp1:=zB s.id.toNat 4
 have hp2:=zB (IntKind.u64.wrap s.l1).toNat 2
 have hfl:=zq3 h0 hz
 have hnz:((nameS s.name).2==0)=zan s.name:=by
  cases h:zan s.name with
  |true=>rw [(zd4 h).2.1];rfl
  |false=>rw [nameS,if_neg (by rw [h];decide)];rfl
 have hnl:(nameS s.name).1.length≤8:=by
  cases h:zan s.name with
  |true=>rw [(zd4 h).1];exact Nat.le_refl _
  |false=>rw [nameS,if_neg (by rw [h];decide)];exact Nat.zero_le _
 (have tk:=za zhj <| za zky <| za zbZ <| za zcY <| zb Tryz.prog;have fx:=(⟨hb,hw,hnz,hfl,@zg4,@zin⟩:_∧_∧_∧_∧_∧_);repeat' (first|(refine hK _ ?_;clear hK K)|refine va fun K hK=>?_|refine vb ?_|refine wc ?_ ?_|exact we|refine fun (hc:_=(_:Bool))=>?_|clear hK K))
 ·simp only [List.length_append];omega
 ·simp only [List.length_append,List.length_cons,List.length_nil];omega
 ·rw [Bool.not_not,hfl,wsnp,if_neg hz]
@[go_sem] noncomputable def zaO:Ent Tryz.prog 223:= .m1 znn zla
def sgetA (d:Disk) (p:Plan) (a o:Int):Snp×Int:=
 if (plook d p a).2≠0 then (snp0,(plook d p a).2)
 else if snpOk (((plook d p a).1.take (o+16).toNat).drop o.toNat) then (snpT (((plook d p a).1.take (o+16).toNat).drop o.toNat),0) else (snp0,14)
theorem cutLZ {b:Txt} :(cutL (cutZ b)= [])↔ ∀c∈b,c=0:=by
 have h1:∀l:Txt,l.dropWhile (· ==0)= []↔ ∀c∈l,c=0:=by
  intro l
  induction l with
  |nil=>simp
  | cons x l ih=>
   rw [List.dropWhile_cons]
   by_cases hx:x=0
   ·subst hx;simp [ih]
   ·have:(x==0)=false:=by simpa using hx
    simp [this,hx]
 have h2:∀ (l:Txt) (c:UInt8),c∈l→c≠0→c∈cutZ l:=by
  intro l
  induction hn:l.length generalizing l with
  |zero=>intro c hc;rw [List.eq_nil_of_length_eq_zero hn] at hc;cases hc
  | succ n ih=>
   intro c hc h0
   rcases List.eq_nil_or_concat l with rfl|⟨u,x,rfl⟩
   ·cases hc
   ·rw [List.concat_eq_append] at hn hc ⊢
    by_cases hx:x=0
    ·subst hx
     rw [zg5]
     refine ih u (by simpa using hn) c ?_ h0
     rcases List.mem_append.1 hc with h|h
     ·exact h
     ·exact absurd (by simpa using h) h0
    ·rw [zfB _ _ hx];exact hc
 have h3:∀ (l:Txt) (c:UInt8),c∈cutZ l→c∈l:=by
  intro l c hc
  unfold cutZ at hc
  rw [List.mem_reverse] at hc
  exact List.mem_reverse.1 ((List.dropWhile_suffix _).subset hc)
 unfold cutL
 rw [h1]
 constructor
 ·intro h c hc
  refine Classical.byContradiction (fun h0=>h0 (h c (h2 _ _ hc h0)))
 ·intro h c hc
  exact h c (h3 _ _ hc)
theorem zua {b:Txt} (h:b.length=16):(cutL (cutZ b)== [])=(b==z16):=by
 rw [Bool.eq_iff_iff,beq_iff_eq,beq_iff_eq,cutLZ]
 constructor
 ·intro hh
  rw [List.eq_replicate_of_mem hh,h]
  rfl
 ·intro hh c hc
  rw [hh] at hc
  exact List.eq_of_mem_replicate hc
theorem zoP (d:Disk) (p:Plan) (a:Int) (o:Int) (h:DP d p) (h0:0≤o) (h1:o≤48):ACall Tryz.prog 249 0 [diskA d,planA p,.agg [.d (.int .i64 a),.d (.int .i64 o),.d (.int .i64 16),.fn (.func 223) [] [],.fn (.func 250) [] []]] [] (fun r _=>r= .tup [snpA (sgetA d p a o).1,.d (.int .i64 (sgetA d p a o).2)]):=by
 refine fbod Tryz.func249 Tryz.ntmps249 (fun base=>?_)
 have h2:=h.dok
 have h3:=h.pok
 have h4:=h.plen
 have hw:IntKind.i64.wrap (o+16)=o+16:=zh (by omega) (by omega)
 obtain ⟨L,hL⟩:∃L,L=plook d p a:=⟨_,rfl⟩
 have hsg:sgetA d p a o=if L.2≠0 then (snp0,L.2) else if snpOk ((L.1.take (o+16).toNat).drop o.toNat) then (snpT ((L.1.take (o+16).toNat).drop o.toNat),0) else (snp0,14):=by rw [sgetA,hL]
 by_cases he:L.2=0
 ·have hb:(L.2 !=0)=false:=by simpa using he
  have h64:=zb0 h (by rw [← hL];exact he)
  rw [← hL] at h64
  rw [if_neg (by simpa using he)] at hsg
  obtain ⟨B,hB⟩:∃B,B=(L.1.take (o+16).toNat).drop o.toNat:=⟨_,rfl⟩
  have hB16:B.length=16:=by rw [hB,List.length_drop,List.length_take];omega
  rw [← hB] at hsg
  obtain ⟨T,hT⟩:∃T,T=snpT B:=⟨_,rfl⟩
  obtain ⟨g1,g2,g3,g4,g5⟩:=zjl B
  rw [← hT] at hsg g1 g2 g3 g4 g5
  have hBl:B.length≤9223372036854775807:=by omega
  have hok:snpOk B=((snpB T).2&&((snpB T).1==B)):=by rw [snpOk,← hT]
  have hok2:snpOk B=((snpB T).2&&(wsnp T==B)):=by
   rw [hok]
   cases hf:(snpB T).2 with
   |true=>rw [zt9 hf]
   |false=>rfl
  have hcl:=zua hB16
  (have tk:=za zI <| za zds <| za za7 <| za zaO <| zb Tryz.prog;have fx:=(⟨hL.symm,hb,hw,hB.symm⟩:_∧_∧_∧_);repeat' ((fail_if_success refine hds 8 (by rfl) ?_);first|(refine hK _ ?_;clear hK K)|refine wa fun K hK=>?_|refine wb ?_|refine wc ?_ ?_|exact we|refine fun (hc:_=(_:Bool))=>?_|clear hK K))
  ·have hBz:B≠z16:=by
    intro hh
    have:(cutL (cutZ B) != [])=false:=by rw [bne,hcl,hh];rfl
    rw [hc] at this
    cases this
   have hTR:snpR B=T:=by rw [hT,snpT,if_neg hBz]
   have hTn:T.name.length≤9223372036854775807:=by omega
   have hcd:(!(snpB T).2||wsnp T !=B)= !snpOk B:=by rw [hok2,Bool.not_and];rfl
   cases ho:snpOk B with
   |true=>
    rw [ho] at hcd hsg
    (have tk:=za zI <| za zds <| za za7 <| za zaO <| zb Tryz.prog;have fx:=(⟨hTR,hcd⟩:_∧_);repeat' (first|(refine hK _ ?_;clear hK K)|refine wa fun K hK=>?_|refine wb ?_|refine wc ?_ ?_|exact we|refine fun (hc:_=(_:Bool))=>?_|clear hK K))
    rw [hsg]
    rfl
   |false=>
    rw [ho] at hcd hsg
    (have tk:=za zI <| za zds <| za za7 <| za zaO <| zb Tryz.prog;have fx:=(⟨hTR,hcd⟩:_∧_);repeat' (first|(refine hK _ ?_;clear hK K)|refine wa fun K hK=>?_|refine wb ?_|refine wc ?_ ?_|exact we|refine fun (hc:_=(_:Bool))=>?_|clear hK K))
    rw [hsg]
    rfl
  ·have hBz:B=z16:=by
    have:(B==z16)=true:=by
     rw [← hcl]
     rw [bne,Bool.not_eq_false'] at hc
     exact hc
    simpa using this
   have hT0:T=⟨0,0,[]⟩:=by rw [hT,snpT,if_pos hBz];rfl
   have hcd:(!(snpB T).2||wsnp T !=B)= !snpOk B:=by rw [hok2,Bool.not_and];rfl
   rw [hT0] at hcd hsg
   cases ho:snpOk B with
   |true=>
    rw [ho] at hcd hsg
    (have tk:=za zI <| za zds <| za za7 <| za zaO <| zb Tryz.prog;have fx:=hcd;repeat' (first|(refine hK _ ?_;clear hK K)|refine wa fun K hK=>?_|refine wb ?_|refine wc ?_ ?_|exact we|refine fun (hc:_=(_:Bool))=>?_|clear hK K))
    rw [hsg]
    rfl
   |false=>
    rw [ho] at hcd hsg
    (have tk:=za zI <| za zds <| za za7 <| za zaO <| zb Tryz.prog;have fx:=hcd;repeat' (first|(refine hK _ ?_;clear hK K)|refine wa fun K hK=>?_|refine wb ?_|refine wc ?_ ?_|exact we|refine fun (hc:_=(_:Bool))=>?_|clear hK K))
    rw [hsg]
    rfl
 ·have hb:(L.2 !=0)=true:=by simpa using he
  (have tk:=za zI <| za zds <| za za7 <| za zaO <| zb Tryz.prog;have fx:=(⟨hL.symm,hb⟩:_∧_);repeat' (first|(refine hK _ ?_;clear hK K)|refine wa fun K hK=>?_|refine wb ?_|refine wc ?_ ?_|exact we|refine fun (hc:_=(_:Bool))=>?_|clear hK K))
  rw [hsg,if_pos he]
  rfl
@[go_sem] noncomputable def zb9:Ent Tryz.prog 249:= .ofL (consL zp (consL zt (consL (aggT (consL (intT .i64) (consL (intT .i64) (consL (zdi (.d (.int .i64 16))) (consL (fnT 223 nilL) (consL (fnT 250 nilL) nilL))))) (fun p=>p) (fun p=>p) (fun _=>rfl)) nilL))) (fun (d,p,(a,o,_,_,_,_),_)=>(DP d p)∧(0≤o)∧(o≤48)) (fun (d,p,(a,o,_,_,_,_),_)=> .tup [snpA (sgetA d p a o).1,.d (.int .i64 (sgetA d p a o).2)]) (fun (d,p,(a,o,_,_,_,_),_) hp=>⟨rfl,zoP d p a o hp.1 hp.2.1 hp.2.2⟩)
theorem zq4 (i:Int) (hp:0≤i∧i<8):AC 194 [.d (.int .i64 i)] (.agg [.d (.int .i64 (2+i / 4)),.d (.int .i64 (i % 4*16)),.d (.int .i64 16),.fn (.func 223) [] [],.fn (.func 250) [] []]):=by
 obtain ⟨h0,h1⟩:=hp
 refine fbod Tryz.func194 Tryz.ntmps194 (fun base=>?_)
 have hq:=div4i h0 h1
 have hm:i.tmod 4=i % 4:=Int.tmod_eq_emod_of_nonneg h0
 have hw1:IntKind.i64.wrap (2+i / 4)=2+i / 4:=zh (by omega) (by omega)
 have hw2:IntKind.i64.wrap (i % 4*16)=i % 4*16:=zh (by omega) (by omega)
 (have fx:=(⟨hq,hm,hw1,hw2⟩:_∧_∧_∧_);repeat' (first|(refine hK _ ?_;clear hK K)|refine wa fun K hK=>?_|refine wb ?_|refine wc ?_ ?_|exact we|clear hK K))
@[go_sem] noncomputable def zcO:Ent Tryz.prog 194:= .m1 (intT .i64) zq4
theorem zq5 {d:Disk} {p:Plan} {i:Nat} :sgetA d p (2+(i:Int) / 4) ((i:Int) % 4*16)=if (plook d p (2+((i / 4:Nat):Int))).2≠0 then (snp0,(plook d p (2+((i / 4:Nat):Int))).2) else if snpOk (slotB (plook d p (2+((i / 4:Nat):Int))).1 i) then (snpT (slotB (plook d p (2+((i / 4:Nat):Int))).1 i),0) else (snp0,14):=by
 have e1:(2+(i:Int) / 4)=2+((i / 4:Nat):Int):=by omega
 have e2:((i:Int) % 4*16+16).toNat=(i % 4+1)*16:=by omega
 have e3:((i:Int) % 4*16).toNat=i % 4*16:=by omega
 unfold sgetA slotB
 rw [e1,e2,e3]
theorem zoQ (d:Disk) (p:Plan) (h:DP d p):ACall Tryz.prog 193 0 [diskA d,planA p,.d (.int .i64 8),.fn (.func 194) [] []] [] (fun r _=>r= .tup [.d (.sl 3 ((snaps d p).1.map snpD)),.d (.int .i64 (snaps d p).2)]):=by
 refine fbod Tryz.func193 Tryz.ntmps193 (fun base=>?_)
 (have tk:=za zb9 <| za zcO <| zb Tryz.prog;repeat' (first|(refine hK _ ?_;clear hK K)|refine wa fun K hK=>?_|refine wb ?_|refine wc ?_ ?_|refine fun (nb:Bool) (hnb:nb=true→_)=>?_|exact we|refine fun (hc:_=(_:Bool))=>?_|clear hK K))
 refine zcT 10 3 rfl ?_
 simp only [fresh,top,hget, ↓reduceIte]
 refine zn (fun q: { q:Nat×List Snp // q.1≤8∧q.2.length=q.1∧snaps d p=snapsK d p (8 - q.1) q.1 q.2 } =>⟨[(3,true,.fn (.func 194) [] []),(4,true,.vp 0 0),(5,true,.vp 1 0),(10,true,.osl 2 3 q.1.1 0 q.1.1),(14,true,.d (.int .i64 8)),(15,true,.d (.int .i64 q.1.1))],[(2,.arr 3 (q.1.2.map snpD)),(1,(.var [.d (.sl 1 (p.targets.map intD)),.d (.sl 1 (p.texts.map strD))])),(0,(.var [.d (.str d.data),.d (.sl 2 (d.cache.map putD)),.d (.int .i64 d.fuse),.d (.bool d.off),.d (.sl 1 (d.bad.map intD))]))],some []⟩) (fun q=>8 - q.1.1) ⟨(0,[]),Nat.zero_le 8,rfl,rfl⟩ le1 (fun q=>?_)
 obtain ⟨⟨i,l⟩,hi,hll,hf⟩:=q
 simp only at hi hll hf ⊢
 rcases Nat.lt_or_ge i 8 with hlt|hge
 ·have hcmp:decide ((i:Int)<8)=true:=decide_eq_true (by omega)
  have hwi:=zq (i:=i) (by omega)
  have hlm:(l.map snpD).length=i:=by rw [List.length_map,hll]
  have hsg:=zq5 (d:=d) (p:=p) (i:=i)
  rw [zfD hlt,snapsK] at hf
  obtain ⟨S,hS⟩:∃S,S=sgetA d p (2+(i:Int) / 4) ((i:Int) % 4*16):=⟨_,rfl⟩
  rw [← hS] at hsg
  by_cases he:(plook d p (2+((i / 4:Nat):Int))).2=0
  ·rw [if_neg (by simpa using he)] at hf hsg
   cases ho:snpOk (slotB (plook d p (2+((i / 4:Nat):Int))).1 i) with
   |true=>
    rw [ho,if_pos rfl] at hf hsg
    have hb:(S.2 !=0)=false:=by rw [hsg];rfl
    have hf2:snaps d p=snapsK d p (8 - (i+1)) (i+1) (l++ [S.1]):=by rw [hf,hsg]
    (have tk:=za zb9 <| za zcO <| zb Tryz.prog;have fx:=(⟨hcmp,hS.symm,hb,hlm⟩:_∧_∧_∧_);repeat' (first|(refine hK _ ?_;clear hK K)|refine va fun K hK=>?_|refine vb ?_|refine wc ?_ ?_|refine fun (nb:Bool) (hnb:nb=true→_)=>?_|exact we|refine fun (hc:_=(_:Bool))=>?_|clear hK K))
    all_goals first|omega|skip
    exact ⟨⟨(i+1,l++ [S.1]),by omega,by simp [hll],hf2⟩,by simp only [List.map_append];simp only [AS.le,leT,leH,zc,AsgK,AV.le,AV.leL,AObj.le,inH,idsT,idsH,AV.ids,AV.idsL,AV.idsR,AObj.ids,lk,hget,go_sem,aeq,aeq.aeqF,simprocAttr,hwi]<;>and_intros<;>rfl,by simp;omega⟩
   |false=>
    rw [ho,if_neg (by decide)] at hf hsg
    have hb:(S.2 !=0)=true:=by rw [hsg];rfl
    (have tk:=za zb9 <| za zcO <| zb Tryz.prog;have fx:=(⟨hcmp,hS.symm,hb⟩:_∧_∧_);repeat' (first|(refine hK _ ?_;clear hK K)|refine va fun K hK=>?_|refine vb ?_|refine wc ?_ ?_|refine fun (nb:Bool) (hnb:nb=true→_)=>?_|exact we|refine fun (hc:_=(_:Bool))=>?_|clear hK K))
    all_goals first|omega|skip
    rw [hf,hsg]
    rfl
  ·rw [if_pos he] at hf hsg
   have hb:(S.2 !=0)=true:=by rw [hsg];simpa using he
   (have tk:=za zb9 <| za zcO <| zb Tryz.prog;have fx:=(⟨hcmp,hS.symm,hb⟩:_∧_∧_);repeat' (first|(refine hK _ ?_;clear hK K)|refine va fun K hK=>?_|refine vb ?_|refine wc ?_ ?_|refine fun (nb:Bool) (hnb:nb=true→_)=>?_|exact we|refine fun (hc:_=(_:Bool))=>?_|clear hK K))
   all_goals first|omega|skip
   rw [hf,hsg]
   rfl
 ·have hcmp:decide ((i:Int)<8)=false:=decide_eq_false (by omega)
  (have tk:=za zb9 <| za zcO <| zb Tryz.prog;have fx:=hcmp;repeat' (first|(refine hK _ ?_;clear hK K)|refine wa fun K hK=>?_|refine wb ?_|refine wc ?_ ?_|refine fun (nb:Bool) (hnb:nb=true→_)=>?_|exact we|refine fun (hc:_=(_:Bool))=>?_|clear hK K))
  have him:i=8:=by omega
  subst him
  rw [if_pos hll.symm,List.take_of_length_le (by simp;omega),hf]
  rfl
@[go_sem] noncomputable def zlb:Ent Tryz.prog 193:= .ofL (consL zp (consL zt (consL (zdi (.d (.int .i64 8))) (consL (fnT 194 nilL) nilL)))) (fun (d,p,_,_,_)=>DP d p) (fun (d,p,_,_,_)=> .tup [.d (.sl 3 ((snaps d p).1.map snpD)),.d (.int .i64 (snaps d p).2)]) (fun (d,p,_,_,_) hp=>⟨rfl,zoQ d p hp⟩)
theorem zsO (d:Disk) (p:Plan) (h:DP d p):AC 125 [diskA d,planA p] (.tup [.d (.sl 3 ((snaps d p).1.map snpD)),.d (.int .i64 (snaps d p).2)]):=by
 refine fbod Tryz.func125 Tryz.ntmps125 (fun base=>?_)
 (have tk:=za zlb <| zb Tryz.prog;repeat' (first|(refine hK _ ?_;clear hK K)|refine wa fun K hK=>?_|refine wb ?_|refine wc ?_ ?_|refine fun (nb:Bool) (hnb:nb=true→_)=>?_|exact we|clear hK K))
@[go_sem] noncomputable def zfJ:Ent Tryz.prog 125:= .m2 zp zt zsO
open Go Go.Proofs
def wkP (q:Plan) (g:Geom) (d:Disk) (e:Int):List AV:= [.d (.sl 1 (q.targets.map intD)),.d (.sl 1 (q.texts.map strD)),.d (.int .i64 g.guest),.d (.int .i64 g.host),.d (.str d.data),.d (.sl 2 (d.cache.map putD)),.d (.int .i64 d.fuse),.d (.bool d.off),.d (.sl 1 (d.bad.map intD)),.d (.int .i64 e)]
attribute [go_sem] wkP
theorem zuH {fl fl':Nat} {f:FuncId} {caps:List AV} {h:AHeap} {K:AHeap→Prop} {q:Plan} {g:Geom} {d:Disk} {e:Int} (hfl:∀i,(hget h i).isSome→i<fl) (hle:fl'≤fl) (hw:hget h 5=some (.var (wkP q g d e)))
  (hk:∀h',K h'→∀i,(hget h i).isSome→(hget h' i).isSome)
  (h1:e≠0→K h)
  (h2:e=0→ACallAt Tryz.prog fl f caps h (fun r h'=>∃q' e',r= .tup [planA q',.d (.int .i64 e')]∧hget h' 5=some (.var (wkP q g d e))∧K (hset h' 5 (.var (wkP q' g d e'))))):
  ACallAt Tryz.prog fl' 251 [.vp 5 0,.fn (.func f) [] caps] h (fun r h'=>r= .tup []∧K h'):=by
 refine ACall.whole (fl:=fl) ?_ hfl hle (fun r h' hr=>hk h' hr.2)
 refine bod Tryz.func251 Tryz.ntmps251 (fun base=>?_)
 cases he:(e==0) with
 |false=>
  have he':e≠0:=by simpa using he
  simp only [wkP] at hw
  (have fx:=(⟨hw,he⟩:_∧_);repeat' (first|(refine hK _ ?_;clear hK K)|refine wa fun K hK=>?_|refine wb ?_|refine wc ?_ ?_|refine fun (nb:Bool) (hnb:nb=true→_)=>?_|exact we|refine fun (hc:_=(_:Bool))=>?_|clear hK K))
  exact h1 he'
 |true=>
  have he':e=0:=by simpa using he
  have h2:=h2 he'
  simp only [wkP] at hw
  (have fx:=(⟨hw,he⟩:_∧_);repeat' (first|(refine hK _ ?_;clear hK K)|refine wa fun K hK=>?_|refine wb ?_|refine wc ?_ ?_|refine fun (nb:Bool) (hnb:nb=true→_)=>?_|exact we|refine fun (hc:_=(_:Bool))=>?_|clear hK K))
  refine h2.mono ?_
  rintro r h' ⟨q',e',rfl,hw',hK⟩
  simp only [wkP] at hw'
  have hs1:∀o,hget (hset h' 5 o) 5=some o:=fun o=>ze hw'
  have hs2:∀a b,hset (hset h' 5 a) 5 b=hset h' 5 b:=fun a b=>zfE h' 5 a b
  simp only [go_sem,hw',hs1,hs2]
  (have fx:=(⟨hw',hs1,hs2⟩:_∧_∧_);repeat' (first|(refine hK _ ?_;clear hK K)|refine wa fun K hK=>?_|refine wb ?_|refine wc ?_ ?_|refine fun (nb:Bool) (hnb:nb=true→_)=>?_|exact we|refine fun (hc:_=(_:Bool))=>?_|clear hK K))
structure Wk where
 q:Plan
 e:Int
def wget (d:Disk) (s:Wk) (t i:Int):Ent2×Wk:=if s.e≠0 then (⟨0,0⟩,s) else ((eget d s.q t i).1,⟨s.q,(eget d s.q t i).2⟩)
@[go_sem] abbrev hGet (g:Geom) (d:Disk) (s:Wk) (t i:Int):AHeap:= [(43,.var [.d (.int .i64 0),.d (.int .i64 0)]),(42,.var [.d (.int .i64 i)]),(41,.var [.d (.int .i64 t)]),(40,.var [.vp 5 0]),(5,.var (wkP s.q g d s.e))]
@[go_sem] abbrev hGet2 (g:Geom) (d:Disk) (s:Wk) (t i:Int):AHeap:= [(43,.var [.d (.int .i64 (eget d s.q t i).1.kind),.d (.int .i64 (eget d s.q t i).1.loc)]),(42,.var [.d (.int .i64 i)]),(41,.var [.d (.int .i64 t)]),(40,.var [.vp 5 0]),(5,.var (wkP s.q g d s.e))]
theorem zt4 (g:Geom) (d:Disk) (s:Wk) (t i:Int) (h:DP d s.q):ACall Tryz.prog 252 80 [.vp 40 0,.vp 41 0,.vp 42 0,.vp 43 0] (hGet g d s t i) (fun r h'=>r= .tup [planA s.q,.d (.int .i64 (eget d s.q t i).2)]∧h'=hGet2 g d s t i):=by
 refine zef (fun i=>decide (i<80)) ?_
 refine bod Tryz.func252 Tryz.ntmps252 (fun base=>?_)
 (have tk:=za zbr <| za zqK <| za zqJ <| za zU <| za zoH <| za zcZ <| za zmn <| za zoE <| zb Tryz.prog;repeat' (first|(refine hK _ ?_;clear hK K)|refine wa fun K hK=>?_|refine wb ?_|refine wc ?_ ?_|refine fun (nb:Bool) (hnb:nb=true→_)=>?_|exact we|clear hK K))
theorem zth (g:Geom) (d:Disk) (s:Wk) (t i:Int) (h:DP d s.q):ACall Tryz.prog 196 40 [.vp 5 0,.d (.int .i64 t),.d (.int .i64 i)] [(5,.var (wkP s.q g d s.e))] (fun r h'=>∃ob',h'= [(5,ob')]∧r=entA (wget d s t i).1∧ob'= .var (wkP ((wget d s t i).2).q g d ((wget d s t i).2).e)):=by
 refine zef (fun i=>decide (i<40)) ?_
 refine bod Tryz.func196 Tryz.ntmps196 (fun base=>?_)
 (repeat' (first|(refine hK _ ?_;clear hK K)|refine wa fun K hK=>?_|refine wb ?_|refine wc ?_ ?_|exact we|clear hK K))
 refine (zuH (fl:=60) (K:=fun h'=>(s.e≠0∧h'=hGet g d s t i)∨(s.e=0∧h'=hset (hGet2 g d s t i) 5 (.var (wkP s.q g d (eget d s.q t i).2)))) (zaP rfl) (by omega) rfl ?_ ?_ ?_).mono ?_
 ·rintro h' (⟨_,rfl⟩|⟨_,rfl⟩) i hi
  ·exact hi
  ·rw [zbh (by rfl)]
   revert hi
   simp only [hget]
   repeat' split
   all_goals simp
 ·intro he;exact .inl ⟨he,rfl⟩
 ·intro he
  refine ((zt4 g d s t i h).whole (zaP rfl) (by omega) (by
   rintro r h' ⟨_,rfl⟩ i hi
   revert hi
   simp only [hget]
   repeat' split
   all_goals simp)).mono ?_
  rintro r h' ⟨rfl,rfl⟩
  exact ⟨_,_,rfl,rfl,.inr ⟨he,rfl⟩⟩
 ·rintro r h' ⟨rfl,(⟨he,rfl⟩|⟨he,rfl⟩)⟩
  ·have hm:wget d s t i=(⟨0,0⟩,s):=by rw [wget,if_pos he]
   (have fx:=hm;repeat' (first|(refine hK _ ?_;clear hK K)|refine wa fun K hK=>?_|refine wb ?_|refine wc ?_ ?_|exact we|clear hK K))
   all_goals first|rfl|exact ⟨_,rfl,rfl⟩|exact ⟨_,rfl,by rw [hm]⟩|skip
  ·have hm:wget d s t i=((eget d s.q t i).1,⟨s.q,(eget d s.q t i).2⟩):=by rw [wget,if_neg (by rw [he];decide)]
   (have fx:=hm;repeat' (first|(refine hK _ ?_;clear hK K)|refine wa fun K hK=>?_|refine wb ?_|refine wc ?_ ?_|exact we|clear hK K))
   all_goals first|rfl|exact ⟨_,rfl,rfl⟩|exact ⟨_,rfl,by rw [hm]⟩|skip
open Go Go.Proofs
open Go Go.Proofs
open Go Go.Proofs
open Go Go.Proofs
structure Dmap where
 name:Txt
 inuse:Bool
 bits:List Bool
 deriving DecidableEq
def dmapD (m:Dmap):List D:= .str m.name:: .bool m.inuse::m.bits.map .bool
theorem zg9:∀ {a b:List Bool},a.map D.bool=b.map D.bool→a=b
 | [],[],_=>rfl
 | [],_::_,h=>by simp at h
 |_::_,[],h=>by simp at h
 |x::a,y::b,h=>by
  simp only [List.map_cons,List.cons.injEq,D.bool.injEq] at h
  rw [h.1,zg9 h.2]
theorem zkQ:∀a b,dmapD a=dmapD b→a=b:=by
 rintro ⟨n,u,b⟩ ⟨n',u',b'⟩ h
 simp only [dmapD,List.cons.injEq,D.str.injEq,D.bool.injEq] at h
 rw [h.1,h.2.1,zg9 h.2.2]
structure Img where
 disk:Disk
 geom:Geom
 jour:Jour
 maps:List Dmap
 broken:Bool
 deriving DecidableEq
def imgA (x:Img):AV:= .agg [.d (.str x.disk.data),.d (.sl 2 (x.disk.cache.map putD)),.d (.int .i64 x.disk.fuse),.d (.bool x.disk.off),.d (.sl 1 (x.disk.bad.map intD)),.d (.int .i64 x.geom.guest),.d (.int .i64 x.geom.host),.d (.int .u64 x.jour.seq),.d (.int .i64 x.jour.pos),.d (.sl 66 (x.maps.map dmapD)),.d (.bool x.broken)]
attribute [go_sem] imgA
theorem ztW (x:Img):Img.mk x.disk x.geom x.jour x.maps x.broken=x:=rfl
noncomputable def zci:PT Img:=aggT (consL strT (consL (slT 2 putD zi3) (consL (intT .i64) (consL boolT (consL (slT 1 intD zbY) (consL (intT .i64) (consL (intT .i64) (consL (intT .u64) (consL (intT .i64) (consL (slT 66 dmapD zkQ) (consL boolT nilL))))))))))) (fun p=>⟨⟨p.1,p.2.1,p.2.2.1,p.2.2.2.1,p.2.2.2.2.1⟩,⟨p.2.2.2.2.2.1,p.2.2.2.2.2.2.1⟩,⟨p.2.2.2.2.2.2.2.1,p.2.2.2.2.2.2.2.2.1⟩,p.2.2.2.2.2.2.2.2.2.1,p.2.2.2.2.2.2.2.2.2.2.1⟩) (fun x=>(x.disk.data,x.disk.cache,x.disk.fuse,x.disk.off,x.disk.bad,x.geom.guest,x.geom.host,x.jour.seq,x.jour.pos,x.maps,x.broken,())) (fun _=>rfl)
attribute [go_sem] zci
attribute [go_sem] ztW
structure ImgOk (x:Img):Prop where
 disk:DiskOk x.disk
 maps:x.maps.length≤9223372036854775807
 names:∀m∈x.maps,m.name.length≤9223372036854775807
 bits:∀m∈x.maps,m.bits.length=64
def mfit (n0:Txt):Nat→List Dmap→Bool
 |_,[]=>true
 |i,m::r=>zan m.name&&m.inuse&& !(decide (0<i)&&(n0==m.name))&&mfit n0 (i+1) r
def ifit (x:Img):Bool:=
 zdm x.geom.guest x.geom.host&&dfit x.disk&&((dsize x.disk:Int)==zgT x.geom.guest x.geom.host)&&jfit x.jour&&decide (x.maps.length≤2)&&mfit (x.maps.head?.map (·.name) |>.getD []) 0 x.maps
theorem zqw (x:Img) (h:ImgOk x):AC 40 [imgA x] (.d (.bool (ifit x))):=by
 refine fbod Tryz.func40 Tryz.ntmps40 (fun base=>?_)
 have h1:=h.disk
 have h2:=h.maps
 by_cases hc0:(!zdm x.geom.guest x.geom.host|| !dfit x.disk||((dsize x.disk:Int) !=zgT x.geom.guest x.geom.host)|| !jfit x.jour||decide (2<(x.maps.length:Int)))=true
 ·(have tk:=za zcs <| za zdk <| za zaI <| za zei <| za zek <| za zC <| zb Tryz.prog;have fx:=hc0;repeat' (first|(refine hK _ ?_;clear hK K)|refine wa fun K hK=>?_|refine wb ?_|refine wc ?_ ?_|exact we|refine fun (hc:_=(_:Bool))=>?_|clear hK K))
  have:ifit x=false:=by
   simp only [Bool.or_eq_true,Bool.not_eq_true',bne_iff_ne,decide_eq_true_eq] at hc0
   unfold ifit
   rcases hc0 with (((hh|hh)|hh)|hh)|hh
   ·rw [hh];simp
   ·rw [hh];simp
   ·rw [beq_eq_false_iff_ne.2 hh];simp
   ·rw [hh];simp
   ·rw [decide_eq_false (p:=x.maps.length≤2) (by omega)];simp
  rw [this]
 have hc0:(!zdm x.geom.guest x.geom.host|| !dfit x.disk||((dsize x.disk:Int) !=zgT x.geom.guest x.geom.host)|| !jfit x.jour||decide (2<(x.maps.length:Int)))=false:=by simpa using hc0
 have hfit:ifit x=mfit (x.maps.head?.map (·.name) |>.getD []) 0 x.maps:=by
  simp only [Bool.or_eq_false_iff,Bool.not_eq_false',bne_eq_false_iff_eq,decide_eq_false_iff_not] at hc0
  rw [ifit,hc0.1.1.1.1,hc0.1.1.1.2,hc0.1.2,beq_iff_eq.2 hc0.1.1.2,decide_eq_true (p:=x.maps.length≤2) (by omega)]
  rfl
 (have tk:=za zcs <| za zdk <| za zaI <| za zei <| za zek <| za zC <| zb Tryz.prog;have fx:=hc0;repeat' (first|(refine hK _ ?_;clear hK K)|refine wa fun K hK=>?_|refine wb ?_|refine wc ?_ ?_|exact we|refine fun (hc:_=(_:Bool))=>?_|clear hK K))
 obtain ⟨N0,hN0⟩:∃N0,N0=(x.maps.head?.map (·.name) |>.getD []):=⟨_,rfl⟩
 rw [← hN0] at hfit
 refine zn (fun q: { i:Nat // i≤x.maps.length∧ifit x=mfit N0 i (x.maps.drop i) } =>⟨[(1,true,.vp 0 0),(3,true,.d (.int .i64 q.1))],[(0,.var [.d (.str x.disk.data),.d (.sl 2 (x.disk.cache.map putD)),.d (.int .i64 x.disk.fuse),.d (.bool x.disk.off),.d (.sl 1 (x.disk.bad.map intD)),.d (.int .i64 x.geom.guest),.d (.int .i64 x.geom.host),.d (.int .u64 x.jour.seq),.d (.int .i64 x.jour.pos),.d (.sl 66 (x.maps.map dmapD)),.d (.bool x.broken)])],some []⟩) (fun q=>x.maps.length - q.1) ⟨0,Nat.zero_le _,hfit⟩ le1 (fun q=>?_)
 obtain ⟨i,hi,hf⟩:=q
 simp only at hi hf ⊢
 rcases zG dmapD x.maps i hi with ⟨m,hq,hlt,hcmp,hrow,hdr,htk⟩|⟨hend,hcmp⟩
 ·obtain ⟨m0,hq0⟩:=zal (l:=x.maps) (i:=0) (by omega)
  have hrow0:=zcf (g:=dmapD) hq0
  simp only [dmapD] at hrow hrow0
  have hpos:decide ((0:Int)<(x.maps.length:Int))=true:=decide_eq_true (by omega)
  have hwi:=zq (i:=i) (by omega)
  have hnl:=h.names m (List.mem_of_getElem? hq)
  have hN:N0=m0.name:=by rw [hN0,List.head?_eq_getElem?,hq0];rfl
  rw [hdr,mfit,hN] at hf
  have hall:(!zan m.name|| !m.inuse||(decide ((0:Int)<(i:Int))&&(m0.name==m.name)))= !(zan m.name&&m.inuse&& !(decide (0<i)&&(m0.name==m.name))):=by
   rw [Bool.not_and,Bool.not_and,Bool.not_not,show decide ((0:Int)<(i:Int))=decide (0<i) from zut]
  (have tk:=za zcs <| za zdk <| za zaI <| za zei <| za zek <| za zC <| zb Tryz.prog;have fx:=(⟨hcmp,hrow,hrow0,hpos,@Int.toNat_natCast⟩:_∧_∧_∧_∧_);repeat' (first|(refine hK _ ?_;clear hK K)|refine wa fun K hK=>?_|refine wb ?_|refine wc ?_ ?_|exact we|refine fun (hc:_=(_:Bool))=>?_|clear hK K))
  ·rename_i hg0
   rw [hg0,hc];rfl
  ·rw [hall] at hc
   simp only [Bool.not_eq_true'] at hc
   rw [hf,hc,Bool.false_and]
  ·rw [hall] at hc
   simp only [Bool.not_eq_false'] at hc
   rw [hc,Bool.true_and,← hN] at hf
   exact ⟨⟨i+1,by omega,hf⟩,lew,by simp;omega⟩
 ·(have tk:=za zcs <| za zdk <| za zaI <| za zei <| za zek <| za zC <| zb Tryz.prog;have fx:=hcmp;repeat' (first|(refine hK _ ?_;clear hK K)|refine wa fun K hK=>?_|refine wb ?_|refine wc ?_ ?_|exact we|refine fun (hc:_=(_:Bool))=>?_|clear hK K))
  rw [hf,hend,List.drop_length]
  rfl
@[go_sem] noncomputable def zma:Ent Tryz.prog 40:= .m1 zci zqw
open Go Go.Proofs
open Go Go.Proofs
def mset (g:Nat) (m:Dmap):Dmap:= { m with bits:=m.bits.set g true }
def cmark (x:Img) (guest:Int):Img:=if guest<0∨64≤guest then x else { x with maps:=x.maps.map (mset guest.toNat) }
theorem zss (m:Dmap) (g:Nat):(dmapD m).set (2+g) (.bool true)=dmapD (mset g m):=by
 rw [Nat.add_comm]
 simp [dmapD,mset,List.map_set]
theorem zst {x:Img} (h:ImgOk x) (g:Int):ImgOk (cmark x g):=by
 unfold cmark
 split
 ·exact h
 ·refine ⟨h.disk,by simp only [List.length_map];exact h.maps,fun m hm=>?_,fun m hm=>?_⟩
  ·obtain ⟨m0,h0,rfl⟩:=List.mem_map.1 hm
   exact h.names m0 h0
  ·obtain ⟨m0,h0,rfl⟩:=List.mem_map.1 hm
   simp [mset,h.bits m0 h0]
theorem zot (x:Img) (guest:Int) (hp:ImgOk x∧x.maps.length≤1000000):AC 93 [imgA x,.d (.int .i64 guest)] (imgA (cmark x guest)):=by
 obtain ⟨h,h2⟩:=hp
 refine fbod Tryz.func93 Tryz.ntmps93 (fun base=>?_)
 by_cases hg:guest<0∨64≤guest
 ·have hdec:(decide (guest<0)||decide (64≤guest))=true:=by simpa using hg
  (have fx:=hdec;repeat' (first|(refine hK _ ?_;clear hK K)|refine va fun K hK=>?_|refine vb ?_|refine wc ?_ ?_|refine fun (nb:Bool) (hnb:nb=true→_)=>?_|exact we|refine fun (hc:_=(_:Bool))=>?_|clear hK K))
  rw [cmark,if_pos hg]
 ·have hdec:(decide (guest<0)||decide (64≤guest))=false:=by simpa using hg
  obtain ⟨g,rfl⟩:∃g:Nat,guest=g:=⟨guest.toNat,by omega⟩
  have hg2:g<64:=by omega
  (have fx:=hdec;repeat' (first|(refine hK _ ?_;clear hK K)|refine va fun K hK=>?_|refine vb ?_|refine wc ?_ ?_|refine fun (nb:Bool) (hnb:nb=true→_)=>?_|exact we|refine fun (hc:_=(_:Bool))=>?_|clear hK K))
  obtain ⟨n,hn⟩:∃n,n=x.maps.length:=⟨_,rfl⟩
  refine zn (fun q: { i:Nat // i≤x.maps.length } =>⟨[(1,true,.d (.int .i64 g)),(2,true,.vp 0 0),(4,true,.vp 1 0),(5,true,.osl 2 66 x.maps.length 0 x.maps.length),(6,true,.d (.int .i64 q.1))],[(2,.arr 66 (((x.maps.take q.1).map (mset g)++x.maps.drop q.1).map dmapD)),(1,.var [.d (.str []),.nils 2,.d (.int .i64 0),.d (.bool false),.nils 1,.d (.int .i64 0),.d (.int .i64 0),.d (.int .u64 0),.d (.int .i64 0),.nils 66,.d (.bool false)]),(0,.var [.d (.str x.disk.data),.d (.sl 2 (x.disk.cache.map putD)),.d (.int .i64 x.disk.fuse),.d (.bool x.disk.off),.d (.sl 1 (x.disk.bad.map intD)),.d (.int .i64 x.geom.guest),.d (.int .i64 x.geom.host),.d (.int .u64 x.jour.seq),.d (.int .i64 x.jour.pos),.d (.sl 66 (x.maps.map dmapD)),.d (.bool x.broken)])],some []⟩) (fun q=>x.maps.length - q.1) ⟨0,Nat.zero_le _⟩ le1 (fun q=>?_)
  obtain ⟨i,hi⟩:=q
  simp only
  have hL:((x.maps.take i).map (mset g)++x.maps.drop i).length=x.maps.length:=by simp;omega
  rcases Nat.lt_or_ge i x.maps.length with hlt|hge
  ·obtain ⟨m,hq⟩:=zal hlt
   have hcmp:decide ((i:Int)<(x.maps.length:Int))=true:=decide_eq_true (by omega)
   have hwi:=zq (i:=i) (by omega)
   have hL1:((x.maps.take i).map (mset g)).length=i:=by simp;omega
   have hat:((x.maps.take i).map (mset g)++x.maps.drop i)[i]?=some m:=by rw [List.getElem?_append_right (by omega),hL1,Nat.sub_self,List.getElem?_drop,Nat.add_zero,hq]
   have hrow:=zcf (g:=dmapD) hat
   have hset:((x.maps.take i).map (mset g)++x.maps.drop i).set i (mset g m)=(x.maps.take (i+1)).map (mset g)++x.maps.drop (i+1):=by
    rw [List.set_append,if_neg (by omega),hL1,Nat.sub_self,zcH hq,zbm hq,List.map_append,List.append_assoc]
    rfl
   (have fx:=(⟨hcmp,hL,hrow⟩:_∧_∧_);repeat' (first|(refine hK _ ?_;clear hK K)|refine va fun K hK=>?_|refine vb ?_|refine wc ?_ ?_|refine fun (nb:Bool) (hnb:nb=true→_)=>?_|exact we|refine fun (hc:_=(_:Bool))=>?_|clear hK K))
   have hnew:(((x.maps.take i).map (mset g)++x.maps.drop i).map dmapD).set i ((dmapD m).set (2+g*1) (.bool true))=((x.maps.take (i+1)).map (mset g)++x.maps.drop (i+1)).map dmapD:=by
    rw [Nat.mul_one,zss,← List.map_set,hset]
   exact ⟨⟨i+1,by omega⟩,by simp only [AS.le,leT,leH,zc,AsgK,AV.le,AV.leL,AObj.le,inH,idsT,idsH,AV.ids,AV.idsL,AV.idsR,AObj.ids,lk,hget,go_sem,aeq,aeq.aeqF,simprocAttr,hwi,hnew],by simp;omega⟩
  ·have hcmp:decide ((i:Int)<(x.maps.length:Int))=false:=decide_eq_false (by omega)
   (have fx:=(⟨hcmp,hL⟩:_∧_);repeat' (first|(refine hK _ ?_;clear hK K)|refine va fun K hK=>?_|refine vb ?_|refine wc ?_ ?_|refine fun (nb:Bool) (hnb:nb=true→_)=>?_|exact we|refine fun (hc:_=(_:Bool))=>?_|clear hK K))
   rw [cmark,if_neg hg,show i=x.maps.length by omega,List.take_length,List.drop_length,List.append_nil,List.take_of_length_le (by simp)]
   rfl
@[go_sem] noncomputable def zc1:Ent Tryz.prog 93:= .m2 zci (intT .i64) zot
theorem bneP {a b:Int} (h:(a !=b)=true):a≠b:=bne_iff_ne.1 h
theorem bneN {a b:Int} (h:(a !=b)=false):¬a≠b:=fun h2=>h2 (bne_eq_false_iff_eq.1 h)
theorem beqP {a b:Int} (h:(a==b)=true):a=b:=beq_iff_eq.1 h
theorem beqN {a b:Int} (h:(a==b)=false):¬a=b:=beq_eq_false_iff_ne.1 h
@[go_sem] theorem p0_fold:Plan.mk [] []=p0:=rfl
def zdI (d:Disk) (k:Int):Txt×Int:=
 if (dread d (96+2*k)).2≠0 then ([],(dread d (96+2*k)).2)
 else if (dread d (96+2*k+1)).2≠0 then ([],(dread d (96+2*k+1)).2)
 else ((dread d (96+2*k)).1++(dread d (96+2*k+1)).1,0)
theorem zjo (d:Disk) (k:Int) (hp:DiskF d∧zD k=true):AC 66 [diskA d,.d (.int .i64 k)] (.tup [.d (.str (zdI d k).1),.d (.int .i64 (zdI d k).2)]):=by
 obtain ⟨h,hk⟩:=hp
 refine fbod Tryz.func66 Tryz.ntmps66 (fun base=>?_)
 have h1:=h.ok
 have h2:=h.puts
 have hk2:=hostOk_iff.1 hk
 have hw:IntKind.i64.wrap (96+2*k+1)=96+2*k+1:=zh (by omega) (by omega)
 have hl1:=zgV (at_:=96+2*k) h2
 have hl2:=zgV (at_:=96+2*k+1) h2
 (have tk:=za zbg <| za zeE <| zb Tryz.prog;have fx:=hw;repeat' (first|(refine hK _ ?_;clear hK K)|refine wa fun K hK=>?_|refine wb ?_|refine wc ?_ ?_|exact we|refine fun (hc:_=(_:Bool))=>?_|clear hK K))
 ·rw [zdI,if_pos (bneP hc)]
 ·rename_i hc0
  rw [zdI,if_neg (bneN hc0),if_pos (bneP hc)]
 ·rename_i hc0
  rw [zdI,if_neg (bneN hc0),if_neg (bneN hc)]
@[go_sem] noncomputable def zha:Ent Tryz.prog 66:= .m2 zp (intT .i64) zjo
theorem zis {d:Disk} {p:Plan} {l1 g:Int} (h:(elook d p l1 g).1.kind=1):zD (elook d p l1 g).1.loc=true:=by
 have hk:∀t i,(eget d p t i).1.kind=1→zD (eget d p t i).1.loc=true:=by
  intro t i hk
  by_cases he:(eget d p t i).2=0
  ·have:=(zg6 he).1
   unfold entOk at this
   rw [if_pos hk] at this
   exact this
  ·exfalso
   unfold eget at hk he
   split at hk
   ·cases hk
   ·rename_i h0
    rw [if_neg h0] at he
    split at hk
    ·cases hk
    ·rename_i h2
     rw [if_neg h2] at he
     unfold entT at hk he
     split at hk
     ·cases hk
     ·rename_i h1
      rw [if_neg h1] at he
      exact he rfl
 unfold elook at h ⊢
 split at h
 ·cases h
 split at h
 ·cases h
 split at h
 ·cases h
 split at h
 ·cases h
 rename_i h1 h2 h3 h4
 rw [if_neg h1,if_neg h2,if_neg h3,if_neg h4]
 exact hk _ _ h
def cread (d:Disk) (l1 guest:Int):Txt×Int:=
 if (elook d p0 l1 guest).2≠0 then ([],(elook d p0 l1 guest).2) else if (elook d p0 l1 guest).1.kind=1 then zdI d (elook d p0 l1 guest).1.loc else (List.replicate 128 0,0)
theorem zou (d:Disk) (l1 guest:Int) (h:DiskF d):AC 23 [diskA d,.d (.int .i64 l1),.d (.int .i64 guest)] (.tup [.d (.str (cread d l1 guest).1),.d (.int .i64 (cread d l1 guest).2)]):=by
 refine fbod Tryz.func23 Tryz.ntmps23 (fun base=>?_)
 have hdp:DP d p0:=⟨h,zb4⟩
 have hk1:(elook d p0 l1 guest).1.kind=1→zD (elook d p0 l1 guest).1.loc=true:=zis
 (have tk:=za zb5 <| za zha <| zb Tryz.prog;repeat' (first|(refine hK _ ?_;clear hK K)|refine wa fun K hK=>?_|refine wb ?_|refine wc ?_ ?_|exact we|refine fun (hc:_=(_:Bool))=>?_|clear hK K))
 ·rw [cread,if_pos (bneP hc)]
 ·exact hk1 (beqP hc)
 ·rename_i hc0
  rw [cread,if_neg (bneN hc0),if_pos (beqP hc)]
 ·rfl
 ·rename_i hc0
  rw [cread,if_neg (bneN hc0),if_neg (beqN hc)]
  rfl
@[go_sem] noncomputable def zd5:Ent Tryz.prog 23:= .m3 zp (intT .i64) (intT .i64) zou
def cdone (x:Img) (p:Plan):Img×Int:=
 if (jcommit x.disk x.jour p).2.2≠0 then ({ x with disk:=(jcommit x.disk x.jour p).1,broken:=true },(jcommit x.disk x.jour p).2.2)
 else ({ x with disk:=(jcommit x.disk x.jour p).1,jour:=(jcommit x.disk x.jour p).2.1 },0)
theorem zov (x:Img) (p:Plan) (hp:ImgOk x∧DiskF x.disk∧pfit p=true∧0≤x.jour.seq∧x.jour.seq<18446744073709551616):AC 43 [imgA x,planA p] (.tup [imgA (cdone x p).1,.d (.int .i64 (cdone x p).2)]):=by
 obtain ⟨h,hd,hf,h0,h1⟩:=hp
 refine fbod Tryz.func43 Tryz.ntmps43 (fun base=>?_)
 (have tk:=za zjf <| zb Tryz.prog;repeat' (first|(refine hK _ ?_;clear hK K)|refine wa fun K hK=>?_|refine wb ?_|refine wc ?_ ?_|exact we|refine fun (hc:_=(_:Bool))=>?_|clear hK K))
 ·rw [cdone,if_pos (bneP hc)]
 ·rw [cdone,if_neg (bneN hc)]
@[go_sem] noncomputable def zaf:Ent Tryz.prog 43:= .m2 zci zt zov
open Go Go.Proofs
def imgV (x:Img):List AV:= [.d (.str x.disk.data),.d (.sl 2 (x.disk.cache.map putD)),.d (.int .i64 x.disk.fuse),.d (.bool x.disk.off),.d (.sl 1 (x.disk.bad.map intD)),.d (.int .i64 x.geom.guest),.d (.int .i64 x.geom.host),.d (.int .u64 x.jour.seq),.d (.int .i64 x.jour.pos),.d (.sl 66 (x.maps.map dmapD)),.d (.bool x.broken)]
attribute [go_sem] imgV
def img0:List AV:= [.d (.str []),.nils 2,.d (.int .i64 0),.d (.bool false),.nils 1,.d (.int .i64 0),.d (.int .i64 0),.d (.int .u64 0),.d (.int .i64 0),.nils 66,.d (.bool false)]
attribute [go_sem] img0
structure ImgF (x:Img):Prop where
 ok:ImgOk x
 disk:DiskF x.disk
 guest:x.geom.guest≤64
 host:x.geom.host≤256
 seq0:0≤x.jour.seq
 seq1:x.jour.seq≤4611686018427387904
 maps:x.maps.length≤1000000
theorem ImgF.mark {x:Img} (h:ImgF x) (g:Int):ImgF (cmark x g):=by
 refine ⟨zst h.ok g,?_,?_,?_,?_,?_,?_⟩
 all_goals unfold cmark
 all_goals split
 all_goals first|exact h.disk|exact h.guest|exact h.host|exact h.seq0|exact h.seq1|exact h.maps|skip
 simp only [List.length_map]
 exact h.maps
open Go Go.Proofs
theorem zmo {d:Disk} {j:Jour} {p:Plan} (h:(jcommit d j p).2.2≠0):(jcommit d j p).2.1=j:=by
 unfold jcommit jtail at h ⊢
 repeat' split at h
 all_goals simp_all
 all_goals rw [if_neg (by omega)]
theorem zoF (x:Img) (p:Plan) (hp:ImgOk x∧DiskF x.disk∧pfit p=true∧0≤x.jour.seq∧x.jour.seq<18446744073709551616):AC 54 [imgA x,planA p] (.tup [imgA (cdone x p).1,.d (.int .i64 (cdone x p).2)]):=by
 obtain ⟨h,hd,hf,h0,h1⟩:=hp
 refine fbod Tryz.func54 Tryz.ntmps54 (fun base=>?_)
 (have tk:=za zjr <| zb Tryz.prog;repeat' (first|(refine hK _ ?_;clear hK K)|refine wa fun K hK=>?_|refine wb ?_|refine wc ?_ ?_|exact we|refine fun (hc:_=(_:Bool))=>?_|clear hK K))
 by_cases he:(jcommit x.disk x.jour p).2.2=0
 ·have hb:((jcommit x.disk x.jour p).2.2 !=0)=false:=by rw [he];rfl
  rw [cdone,if_neg (by omega),hb,he,Bool.or_false]
 ·have hb:((jcommit x.disk x.jour p).2.2 !=0)=true:=by simpa using he
  rw [cdone,if_pos he,hb,Bool.or_true,zmo he]
@[go_sem] noncomputable def zb8:Ent Tryz.prog 54:= .m2 zci zt zoF
open Go Go.Proofs
def cntsL (d:Disk) (p:Plan):Nat→Nat→List (Int×Int)
 |0,_=> []
 |m+1,k=>if (rget d p k).2≠0 then [rget d p k] else rget d p k::cntsL d p m (k+1)
theorem zhk {d:Disk} {p:Plan} :∀ (m k:Nat) (l:List Int) (ys:List (Int×Int)) (q:Int×Int) (zs:List (Int×Int)),cntsL d p m k=ys++q::zs→q.2≠0→rallK d p m k l=([],q.2)
 |0,k,l,ys,q,zs,h,hq=>by simp [cntsL] at h
 | m+1,k,l,ys,q,zs,h,hq=>by
  rw [cntsL] at h
  rw [rallK]
  split at h
  ·rename_i h1
   rw [if_pos h1]
   cases ys with
   |nil=>simp only [List.nil_append,List.cons.injEq] at h;rw [h.1]
   |cons y ys=>simp at h
  ·rename_i h1
   rw [if_neg h1]
   cases ys with
   |nil=>simp only [List.nil_append,List.cons.injEq] at h;rw [← h.1] at hq;exact absurd hq h1
   |cons y ys=>
    simp only [List.cons_append,List.cons.injEq] at h
    rw [show ((k:Int)+1)=((k+1:Nat):Int) by omega]
    exact zhk m (k+1) _ ys q zs h.2 hq
theorem zlc {d:Disk} {p:Plan} :∀ (m k:Nat) (l:List Int),(∀q∈cntsL d p m k,q.2=0)→rallK d p m k l=(l++(cntsL d p m k).map (·.1),0)
 |0,k,l,h=>by simp [rallK,cntsL]
 | m+1,k,l,h=>by
  rw [cntsL] at h ⊢
  rw [rallK]
  by_cases h1:(rget d p k).2=0
  ·rw [if_neg (by simpa using h1)] at h ⊢
   rw [if_neg (by simpa using h1),show ((k:Int)+1)=((k+1:Nat):Int) by omega,zlc m (k+1) _ (fun q hq=>h q (List.mem_cons_of_mem _ hq))]
   simp
  ·rw [if_pos h1] at h
   exact absurd (h _ (List.mem_singleton_self _)) h1
theorem zld {d:Disk} {p:Plan} :∀ (m k:Nat),(cntsL d p m k).length≤m
 |0,k=>Nat.le_refl _
 | m+1,k=>by
  rw [cntsL]
  split
  ·simp
  ·have:=zld (d:=d) (p:=p) m (k+1)
   simp only [List.length_cons]
   omega
theorem zoR (d:Disk) (p:Plan) (n:Int) (_:True):AC 129 [diskA d,planA p,.d (.int .i64 n)] (.fn (.func 203) [] [.dp [.d (.int .i64 n)],.dp (diskC d),.dp (planC p)]):=by
 refine fbod Tryz.func129 Tryz.ntmps129 (fun base=>?_)
 (repeat' (first|(refine hK _ ?_;clear hK K)|refine wa fun K hK=>?_|refine wb ?_|refine wc ?_ ?_|refine fun (nb:Bool) (hnb:nb=true→_)=>?_|exact we|clear hK K))
@[go_sem] noncomputable def zf3:Ent Tryz.prog 129:= .m3 zp zt (intT .i64) zoR
theorem zoS (d:Disk) (p:Plan) (n:Int) (h:DP d p) (h0:0≤n) (h1:n≤256):AIter Tryz.prog 203 100 [] [.dp [.d (.int .i64 n)],.dp [.d (.str d.data),.d (.sl 2 (d.cache.map putD)),.d (.int .i64 d.fuse),.d (.bool d.off),.d (.sl 1 (d.bad.map intD))],.dp [.d (.sl 1 (p.targets.map intD)),.d (.sl 1 (p.texts.map strD))]] [] ((cntsL d p n.toNat 0).map freeI) (fun gg h'=>(∀xs,gg=some xs→xs=(cntsL d p n.toNat 0).map freeI)∧h'= []):=by
 refine itr Tryz.func203 Tryz.ntmps203 (fun base y=>?_)
 refine zd1 ?_
 (have tk:=zb Tryz.prog);repeat' (first|(refine zo (fun i=>decide (i<100)) (by simp only [inH,idsH,hsel,AV.ids,AV.idsL,AV.idsR,AObj.ids,hget,go_sem,aeq,aeq.aeqF,simprocAttr]) ?_;simp only [go_sem,aeq,aeq.aeqF,simprocAttr,hsel,keepT];refine zu ?_;simp only [go_sem,aeq,aeq.aeqF,simprocAttr])|((first|(refine ya ?_;intro K hK)|refine yb ?_);simp only [go_sem,aeq,aeq.aeqF,simprocAttr])|refine zj (fun K hK=>?_)|refine sc ?_|refine zi rfl (fun hc=>?_) (fun hc=>?_)|(refine hK _ ?_;clear hK K)|((first|refine (show AS.le _ _ from ?_)|refine (show leH _ _ from ?_)|refine (show inH _ _ from ?_));simp only [AS.le,leT,leH,zc,AsgK,AV.le,AV.leL,AObj.le,inH,idsT,idsH,AV.ids,AV.idsL,AV.idsR,AObj.ids,lk,hget,go_sem,aeq,aeq.aeqF,simprocAttr])|refine fun (r2:Rnd _)=>?_|with_reducible refine And.intro ?_ ?_|exact ‹_<+:_› |omega|assumption|refine fun (hg:(_:Bool)=(_:Bool))=>?_|clear hK K)
 refine zn (fun q: { q:Nat×List (List AV) // (q.1:Int)≤n∧q.2++(cntsL d p (n.toNat - q.1) q.1).map freeI=(cntsL d p n.toNat 0).map freeI } =>⟨[(0,true,.fn (.yield y.yl) [] []),(1,true,.dp [.d (.int .i64 n)]),(2,true,.dp [.d (.str d.data),.d (.sl 2 (d.cache.map putD)),.d (.int .i64 d.fuse),.d (.bool d.off),.d (.sl 1 (d.bad.map intD))]),(3,true,.dp [.d (.sl 1 (p.targets.map intD)),.d (.sl 1 (p.texts.map strD))]),(8,true,.d (.int .i64 n)),(9,true,.d (.int .i64 q.1.1))],[],some q.1.2⟩) (fun q=>n.toNat - q.1.1) ⟨(0,[]),by show (_:Int)≤_;omega,rfl⟩ le1 (fun q=>?_)
 obtain ⟨⟨i,xs⟩,hi,hf⟩:=q
 simp only at hi hf ⊢
 by_cases hlt:(i:Int)<n
 ·have hcmp:decide ((i:Int)<n)=true:=decide_eq_true hlt
  have hwi:=zq (i:=i) (by omega)
  rw [show n.toNat - i=(n.toNat - (i+1))+1 by omega,cntsL] at hf
  by_cases he:(rget d p i).2=0
  ·have hb:((rget d p i).2 !=0)=false:=by simpa using he
   rw [if_neg (by simpa using he)] at hf
   have hpr:(xs++ [[.d (.int .i64 (rget d p i).1),.d (.int .i64 (rget d p i).2)]])<+:(cntsL d p n.toNat 0).map freeI:=⟨(cntsL d p (n.toNat - (i+1)) (i+1)).map freeI,by rw [← hf];simp [freeI]⟩
   (have tk:=za zU <| zb Tryz.prog);repeat' (first|(refine zo (fun i=>decide (i<100)) (by simp only [inH,idsH,hsel,AV.ids,AV.idsL,AV.idsR,AObj.ids,hget,go_sem,aeq,aeq.aeqF,simprocAttr]) ?_;simp only [go_sem,aeq,aeq.aeqF,simprocAttr,hcmp,hb,hsel,keepT];refine zu ?_;simp only [go_sem,aeq,aeq.aeqF,simprocAttr,hcmp,hb])|((first|(refine ya ?_;intro K hK)|refine yb ?_);simp only [go_sem,aeq,aeq.aeqF,simprocAttr,hcmp,hb])|refine zj (fun K hK=>?_)|refine sc ?_|refine zi rfl (fun hc=>?_) (fun hc=>?_)|(refine hK _ ?_;clear hK K)|((first|refine (show AS.le _ _ from ?_)|refine (show leH _ _ from ?_)|refine (show inH _ _ from ?_));simp only [AS.le,leT,leH,zc,AsgK,AV.le,AV.leL,AObj.le,inH,idsT,idsH,AV.ids,AV.idsL,AV.idsR,AObj.ids,lk,hget,go_sem,aeq,aeq.aeqF,simprocAttr,hcmp,hb])|refine fun (r2:Rnd _)=>?_|with_reducible refine And.intro ?_ ?_|exact ‹_<+:_› |omega|assumption|refine fun (hg:(_:Bool)=(_:Bool))=>?_|clear hK K)
   exact ⟨⟨(i+1,xs++ [freeI (rget d p i)]),by show ((i+1:Nat):Int)≤_;omega,by rw [← hf];simp⟩,by simp only [AS.le,leT,leH,zc,AsgK,AV.le,AV.leL,AObj.le,inH,idsT,idsH,AV.ids,AV.idsL,AV.idsR,AObj.ids,lk,hget,go_sem,aeq,aeq.aeqF,simprocAttr,hwi,freeI],by simp;omega⟩
  ·have hb:((rget d p i).2 !=0)=true:=by simpa using he
   rw [if_pos (by simpa using he)] at hf
   have hpr:(xs++ [[.d (.int .i64 (rget d p i).1),.d (.int .i64 (rget d p i).2)]])<+:(cntsL d p n.toNat 0).map freeI:=⟨[],by rw [← hf];simp [freeI]⟩
   (have tk:=za zU <| zb Tryz.prog);repeat' (first|(refine zo (fun i=>decide (i<100)) (by simp only [inH,idsH,hsel,AV.ids,AV.idsL,AV.idsR,AObj.ids,hget,go_sem,aeq,aeq.aeqF,simprocAttr]) ?_;simp only [go_sem,aeq,aeq.aeqF,simprocAttr,hcmp,hb,hsel,keepT];refine zu ?_;simp only [go_sem,aeq,aeq.aeqF,simprocAttr,hcmp,hb])|((first|(refine ya ?_;intro K hK)|refine yb ?_);simp only [go_sem,aeq,aeq.aeqF,simprocAttr,hcmp,hb])|refine zj (fun K hK=>?_)|refine sc ?_|refine zi rfl (fun hc=>?_) (fun hc=>?_)|(refine hK _ ?_;clear hK K)|((first|refine (show AS.le _ _ from ?_)|refine (show leH _ _ from ?_)|refine (show inH _ _ from ?_));simp only [AS.le,leT,leH,zc,AsgK,AV.le,AV.leL,AObj.le,inH,idsT,idsH,AV.ids,AV.idsL,AV.idsR,AObj.ids,lk,hget,go_sem,aeq,aeq.aeqF,simprocAttr,hcmp,hb])|refine fun (r2:Rnd _)=>?_|with_reducible refine And.intro ?_ ?_|exact ‹_<+:_› |omega|assumption|refine fun (hg:(_:Bool)=(_:Bool))=>?_|clear hK K)
   rintro zs rfl
   rw [← hf]
   simp [freeI]
 ·have hcmp:decide ((i:Int)<n)=false:=decide_eq_false hlt
  (have tk:=za zU <| zb Tryz.prog);repeat' (first|(refine zo (fun i=>decide (i<100)) (by simp only [inH,idsH,hsel,AV.ids,AV.idsL,AV.idsR,AObj.ids,hget,go_sem,aeq,aeq.aeqF,simprocAttr]) ?_;simp only [go_sem,aeq,aeq.aeqF,simprocAttr,hcmp,hsel,keepT];refine zu ?_;simp only [go_sem,aeq,aeq.aeqF,simprocAttr,hcmp])|((first|(refine ya ?_;intro K hK)|refine yb ?_);simp only [go_sem,aeq,aeq.aeqF,simprocAttr,hcmp])|refine zj (fun K hK=>?_)|refine sc ?_|refine zi rfl (fun hc=>?_) (fun hc=>?_)|(refine hK _ ?_;clear hK K)|((first|refine (show AS.le _ _ from ?_)|refine (show leH _ _ from ?_)|refine (show inH _ _ from ?_));simp only [AS.le,leT,leH,zc,AsgK,AV.le,AV.leL,AObj.le,inH,idsT,idsH,AV.ids,AV.idsL,AV.idsR,AObj.ids,lk,hget,go_sem,aeq,aeq.aeqF,simprocAttr,hcmp])|refine fun (r2:Rnd _)=>?_|with_reducible refine And.intro ?_ ?_|exact ‹_<+:_› |omega|assumption|refine fun (hg:(_:Bool)=(_:Bool))=>?_|clear hK K)
  rintro zs rfl
  rw [← hf,show n.toNat - i=0 by omega]
  simp [cntsL]
theorem zq6 (d:Disk) (p:Plan) (n:Int) (h:DP d p):AC 51 [diskA d,planA p,.d (.int .i64 n)] (.tup [.d (.sl 1 ((rall d p n).1.map intD)),.d (.int .i64 (rall d p n).2)]):=by
 refine fbod Tryz.func51 Tryz.ntmps51 (fun base=>?_)
 by_cases hn:n<0∨256<n
 ·have hdec:(decide (n<0)||decide (256<n))=true:=by simpa using hn
  (have tk:=za zf3 <| zb Tryz.prog;have fx:=hdec;repeat' (first|(refine hK _ ?_;clear hK K)|refine wa fun K hK=>?_|refine wb ?_|refine wc ?_ ?_|refine wl ?_|refine fun (r2:Rnd _)=>?_|refine fun (nb:Bool) (hnb:nb=true→_)=>?_|exact ‹_<+:_› |exact we|refine fun (hc:_=(_:Bool))=>?_|clear hK K))
  rw [rall,if_pos hn]
  rfl
 have hdec:(decide (n<0)||decide (256<n))=false:=by simpa using hn
 (have tk:=za zf3 <| zb Tryz.prog;have fx:=hdec;repeat' (first|(refine hK _ ?_;clear hK K)|refine wa fun K hK=>?_|refine wb ?_|refine wc ?_ ?_|refine wl ?_|refine fun (r2:Rnd _)=>?_|refine fun (nb:Bool) (hnb:nb=true→_)=>?_|exact ‹_<+:_› |exact we|refine fun (hc:_=(_:Bool))=>?_|clear hK K))
 have hra:rall d p n=rallK d p n.toNat 0 []:=by rw [rall,if_neg hn]
 obtain ⟨L,hL⟩:∃L,L=cntsL d p n.toNat 0:=⟨_,rfl⟩
 have hLb:=zld (d:=d) (p:=p) n.toNat 0
 have hLb:(cntsL d p n.toNat 0).length≤256:=by omega
 have hspl:=fun ys q zs=>zhk (d:=d) (p:=p) n.toNat 0 [] ys q zs
 have hall:=zlc (d:=d) (p:=p) n.toNat 0 []
 have hit:=zoS d p n h (by omega) (by omega)
 rw [← hL] at hspl hall hit hLb
 rw [show ((0:Nat):Int)=0 from rfl] at hspl hall
 rw [← hra] at hall
 refine zj7 4 0 1 (cs:= [.nils 1]) rfl rfl ?_
 simp only [fresh,top,hget,hset, ↓reduceIte]
 obtain ⟨I,hI⟩:∃I:List (List AV)→AHeap×Option (List (List AV)),I=fun xs=>([(5,.arr 1 ((L.take xs.length).map (fun q=> [.int .i64 q.1]))),(4,.var [.osl 5 1 xs.length 0 xs.length]),(3,.var [.d (.int .i64 0)]),(2,.var [.nils 1]),(1,(.var [.d (.sl 1 (p.targets.map intD)),.d (.sl 1 (p.texts.map strD))])),(0,(.var [.d (.str d.data),.d (.sl 2 (d.cache.map putD)),.d (.int .i64 d.fuse),.d (.bool d.off),.d (.sl 1 (d.bad.map intD))]))],some []):=⟨_,rfl⟩
 obtain ⟨G,hG⟩:∃G:List (List AV)→Prop,G=fun xs=>xs.length≤L.length∧∀q∈L.take xs.length,q.2=0:=⟨_,rfl⟩
 obtain ⟨J,hJ⟩:∃J:Code→AHeap→Option (List (List AV))→Prop,J=fun c h g=>c= .ret∧g=some []∧∃ (a:List (List D)) (m:Nat) (e:Int),rall d p n=([],e)∧h= [(5,.arr 1 a),(4,.var [.osl 5 1 m 0 m]),(3,.var [.d (.int .i64 e)]),(2,.var [.nils 1]),(1,(.var [.d (.sl 1 (p.targets.map intD)),.d (.sl 1 (p.texts.map strD))])),(0,(.var [.d (.str d.data),.d (.sl 2 (d.cache.map putD)),.d (.int .i64 d.fuse),.d (.bool d.off),.d (.sl 1 (d.bad.map intD))]))]:=⟨_,rfl⟩
 refine aw_le ⟨[(6,true,.vp 2 0),(7,true,.vp 3 0),(8,true,.vp 4 0),(20,true,.fn (.func 203) [] [.dp [.d (.int .i64 n)],.dp (diskC d),.dp (planC p)])],[(5,.arr 1 []),(4,.var [.osl 5 1 0 0 0]),(3,.var [.d (.int .i64 0)]),(2,.var [.nils 1]),(1,(.var [.d (.sl 1 (p.targets.map intD)),.d (.sl 1 (p.texts.map strD))])),(0,(.var [.d (.str d.data),.d (.sl 2 (d.cache.map putD)),.d (.int .i64 d.fuse),.d (.bool d.off),.d (.sl 1 (d.bad.map intD))]))],some []⟩ le0 ?_
 refine zbe 100 G I J (hit) (by simp only [go_sem,aeq,aeq.aeqF,simprocAttr]) rfl (zaP rfl) (by simp [cxOf,cxY]) rfl (by rw [hG];first|trivial|rfl|simp) (by rw [hI];simp only [AS.le,leT,leH,zc,AsgK,AV.le,AV.leL,AObj.le,inH,idsT,idsH,AV.ids,AV.idsL,AV.idsR,AObj.ids,lk,hget,go_sem,aeq,aeq.aeqF,simprocAttr]<;>simp [AV.leL,AV.le]) (by rw [hI];simp only [AS.le,leT,leH,zc,AsgK,AV.le,AV.leL,AObj.le,inH,idsT,idsH,AV.ids,AV.idsL,AV.idsR,AObj.ids,lk,hget,go_sem,aeq,aeq.aeqF,simprocAttr]<;>simp) (by rw [hI]<;>rfl) (by intro x hx;obtain ⟨q,_,rfl⟩:=List.mem_map.1 hx;rfl) (by intro t ht;simp at ht;first|(rcases ht with rfl|rfl<;>simp [cxOf,cxY]<;>done)|(subst ht;simp [cxOf,cxY])) ?_ ?_ ?_
 ·intro xs x hpre hgd l1 r1
  obtain ⟨ys,q,zs,hys,rfl,hzl⟩:=zdb hpre
  have hln:xs.length=ys.length:=by rw [hys];simp
  rw [hG] at hgd
  obtain ⟨hg1,hg2⟩:=hgd
  simp only [freeI]
  have hqL:L[xs.length]?=some q:=by rw [hzl,hln];simp
  have htk:=zbm hqL
  obtain ⟨A,hA⟩:∃A:List (List D),A=(L.take xs.length).map (fun q=> [.int .i64 q.1]):=⟨_,rfl⟩
  have hAl:A.length=xs.length:=by rw [hA,List.length_map,List.length_take];omega
  have hLl:L.length≤256:=hLb
  refine aw_le ⟨[(21,true,.d (.int .i64 q.1)),(22,true,.d (.int .i64 q.2)),(6,true,.vp 2 0),(7,true,.vp 3 0),(8,true,.vp 4 0)],[(5,.arr 1 A),(4,.var [.osl 5 1 xs.length 0 xs.length]),(3,.var [.d (.int .i64 0)]),(2,.var [.nils 1]),(1,(.var [.d (.sl 1 (p.targets.map intD)),.d (.sl 1 (p.texts.map strD))])),(0,(.var [.d (.str d.data),.d (.sl 2 (d.cache.map putD)),.d (.int .i64 d.fuse),.d (.bool d.off),.d (.sl 1 (d.bad.map intD))]))],some []⟩ (by rw [hI,hA];simp only [AS.le,leT,leH,zc,AsgK,AV.le,AV.leL,AObj.le,inH,idsT,idsH,AV.ids,AV.idsL,AV.idsR,AObj.ids,lk,hget,go_sem,aeq,aeq.aeqF,simprocAttr]) ?_
  by_cases he:q.2=0
  ·have hb:(q.2 !=0)=false:=by simpa using he
   (have tk:=zb Tryz.prog);repeat' (first|((first|(refine sa ?_;intro K hK)|refine sb ?_);simp only [go_sem,aeq,aeq.aeqF,simprocAttr,hb,hAl,hI,List.length_append,htk,List.map_append,← hA,Tryz.results51])|refine zj (fun K hK=>?_)|refine sc ?_|refine zi rfl (fun hc=>?_) (fun hc=>?_)|(refine hK _ ?_;clear hK K)|((first|refine (show AS.le _ _ from ?_)|refine (show leH _ _ from ?_)|refine (show inH _ _ from ?_));simp only [AS.le,leT,leH,zc,AsgK,AV.le,AV.leL,AObj.le,inH,idsT,idsH,AV.ids,AV.idsL,AV.idsR,AObj.ids,lk,hget,go_sem,aeq,aeq.aeqF,simprocAttr,hb,hAl,hI,List.length_append,htk,List.map_append,← hA])|refine fun (r2:Rnd _)=>?_|refine fun (nb:Bool) (hnb:nb=true→_)=>?_|with_reducible refine And.intro ?_ ?_|exact ‹_<+:_› |omega|assumption|refine fun (hg:(_:Bool)=(_:Bool))=>?_|clear hK K)
   rw [hG]
   show (xs++ [freeI q]).length≤L.length∧∀y∈L.take (xs++ [freeI q]).length,y.2=0
   rw [List.length_append,List.length_singleton,htk]
   refine ⟨by have:=(List.getElem?_eq_some_iff.1 hqL).1;omega,fun y hy=>?_⟩
   rcases List.mem_append.1 hy with hy|hy
   ·exact hg2 y hy
   ·rw [List.mem_singleton.1 hy];exact he
  ·have hb:(q.2 !=0)=true:=by simpa using he
   (have tk:=zb Tryz.prog;have fx:=(⟨hb,hAl⟩:_∧_);repeat' (first|(refine hK _ ?_;clear hK K)|refine wa fun K hK=>?_|refine wb ?_|refine wc ?_ ?_|refine wl ?_|refine fun (r2:Rnd _)=>?_|refine fun (nb:Bool) (hnb:nb=true→_)=>?_|exact ‹_<+:_› |exact we|refine fun (hc:_=(_:Bool))=>?_|clear hK K))
   rw [hJ]
   exact ⟨rfl,rfl,A,xs.length,q.2,by rw [hra];exact hspl _ _ _ hzl he,rfl⟩
 ·intro hgd
  rw [hG] at hgd
  rw [List.length_map,List.take_length] at hgd
  have hfin:=hall hgd.2
  rw [hI]
  have hml:(L.map (fun q=>([.int .i64 q.1]:List D))).length=L.length:=List.length_map _
  (have tk:=zb Tryz.prog);repeat' (first|((first|(refine sa ?_;intro K hK)|refine sb ?_);simp only [go_sem,aeq,aeq.aeqF,simprocAttr,List.length_map,List.take_length,Tryz.results51])|refine zj (fun K hK=>?_)|refine sc ?_|refine zi rfl (fun hc=>?_) (fun hc=>?_)|(refine hK _ ?_;clear hK K)|((first|refine (show AS.le _ _ from ?_)|refine (show leH _ _ from ?_)|refine (show inH _ _ from ?_));simp only [AS.le,leT,leH,zc,AsgK,AV.le,AV.leL,AObj.le,inH,idsT,idsH,AV.ids,AV.idsL,AV.idsR,AObj.ids,lk,hget,go_sem,aeq,aeq.aeqF,simprocAttr,List.length_map,List.take_length])|refine fun (r2:Rnd _)=>?_|refine fun (nb:Bool) (hnb:nb=true→_)=>?_|with_reducible refine And.intro ?_ ?_|exact ‹_<+:_› |omega|assumption|refine fun (hg:(_:Bool)=(_:Bool))=>?_|clear hK K)
  rw [hfin,List.nil_append,List.map_map]
  rfl
 ·rw [hJ]
  rintro c h3 g3 ⟨rfl,rfl,a,m,e,he,rfl⟩
  (have tk:=zb Tryz.prog;have fx:=Go.Aw.fx;repeat' (first|(refine hK _ ?_;clear hK K)|refine wa fun K hK=>?_|refine wb ?_|refine wc ?_ ?_|refine wl ?_|refine fun (r2:Rnd _)=>?_|refine fun (nb:Bool) (hnb:nb=true→_)=>?_|exact ‹_<+:_› |exact we|refine fun (hc:_=(_:Bool))=>?_|clear hK K))
  rw [he]
  rfl
@[go_sem] noncomputable def zdJ:Ent Tryz.prog 51:= .m3 zp zt (intT .i64) zq6
open Go Go.Proofs
open Go Go.Proofs
open Go Go.Proofs
open Go Go.Proofs
theorem DiskF.commit {d:Disk} (h:DiskF d) (j:Jour) (p:Plan):DiskF (jcommit d j p).1:=by
 have h1:=h.flush
 have h2:∀l,DiskF (Aw.layL (Aw.dflush d).1 l).1:=fun l=>DiskF.layL l h1
 have h3:∀l,DiskF (Aw.dflush (Aw.layL (Aw.dflush d).1 l).1).1:=fun l=>(h2 l).flush
 have h4:∀l,DiskF (Aw.play (Aw.dflush (Aw.layL (Aw.dflush d).1 l).1).1 p).1:=fun l=>(h3 l).play p
 unfold Aw.jcommit Aw.jtail
 repeat' split
 all_goals first|exact h|exact h1|exact h2 _|exact h3 _|exact h4 _
theorem zmq {d:Disk} {j:Jour} {p:Plan} (h0:0≤j.seq) (h1:j.seq≤4611686018427387904):0≤(jcommit d j p).2.1.seq∧(jcommit d j p).2.1.seq≤4611686018427387904:=by
 unfold jcommit jtail
 repeat' split
 all_goals first|exact ⟨h0,h1⟩|(constructor<;>simp only<;>omega)
theorem ImgF.done {x:Img} (h:ImgF x) (p:Plan):ImgF (cdone x p).1:=by
 have hd:=h.disk.commit x.jour p
 have hs:=zmq (d:=x.disk) (p:=p) h.seq0 h.seq1
 unfold cdone
 split
 ·exact ⟨⟨hd.ok,h.ok.maps,h.ok.names,h.ok.bits⟩,hd,h.guest,h.host,h.seq0,h.seq1,h.maps⟩
 ·exact ⟨⟨hd.ok,h.ok.maps,h.ok.names,h.ok.bits⟩,hd,h.guest,h.host,hs.1,hs.2,h.maps⟩
open Go Go.Proofs
open Go Go.Proofs Go.RowKit Go.ChangeShapes Go.WideShapes
structure ImgW (x:Img):Prop where
 ok:ImgOk x
 seq0:0≤x.jour.seq
 seq1:x.jour.seq≤18446744073709551615
 guest0: -9223372036854775808≤x.geom.guest
 guest1:x.geom.guest≤9223372036854775807
 host0: -9223372036854775808≤x.geom.host
 host1:x.geom.host≤9223372036854775807
 pos0: -9223372036854775808≤x.jour.pos
 pos1:x.jour.pos≤9223372036854775807
def imgD (x:Img):List D:= [.str x.disk.data,.sl 2 (x.disk.cache.map putD),.int .i64 x.disk.fuse,.bool x.disk.off,.sl 1 (x.disk.bad.map intD),.int .i64 x.geom.guest,.int .i64 x.geom.host,.int .u64 x.jour.seq,.int .i64 x.jour.pos,.sl 66 (x.maps.map dmapD),.bool x.broken]
theorem zeL {n:Nat} {x:List D} (h:DTy Tryz.prog (n+1) 3 x):∃a:Int,x= [.int .i64 a]∧ -9223372036854775808≤a∧a≤9223372036854775807:=by
 unfold DTy at h
 simp only [ty3] at h
 obtain ⟨a,rfl,h1,h2⟩:=h
 exact ⟨a,rfl,h1,h2⟩
theorem zmK {n:Nat} {x:List D} (h:DTy Tryz.prog (n+1) 9 x):∃s:Txt,x= [.str s]∧s.length≤9223372036854775807:=by
 unfold DTy at h
 simp only [ty9] at h
 exact h
theorem zgp {n:Nat} {x:List D} (h:DTy Tryz.prog (n+1) 4 x):∃b:Bool,x= [.bool b]:=by
 unfold DTy at h
 simp only [ty4] at h
 exact h
theorem zsT {n:Nat} {x:List D} (h:DTy Tryz.prog (n+2) 23 x):∃l:List Int,l.length≤9223372036854775807∧x= [.sl 1 (l.map intD)]:=by
 unfold DTy at h
 simp only [ty23] at h
 obtain ⟨rows,rfl,hl,hr⟩:=h
 obtain ⟨l,rfl⟩:=zgh (e:=intD) (fun r h'=>(zeL (hr r h')).imp fun s h=>h.1)
 exact ⟨l,by simpa using hl,by rw [ty3]⟩
theorem zub {n:Nat} {x:List D} (h:DTy Tryz.prog (n+2) 183 x):∃q:PutR,x=putD q:=by
 unfold DTy at h
 simp only [ty183,DTy.fields] at h
 obtain ⟨a1,b1,rfl,g1,a2,b2,rfl,g2,rfl⟩:=h
 obtain ⟨a,rfl,_⟩:=zeL g1
 obtain ⟨s,rfl,_⟩:=zmK g2
 exact ⟨(a,s),rfl⟩
theorem zsU {n:Nat} {x:List D} (h:DTy Tryz.prog (n+3) 22 x):∃l:List PutR,l.length≤9223372036854775807∧x= [.sl 2 (l.map putD)]:=by
 unfold DTy at h
 simp only [ty22] at h
 obtain ⟨rows,rfl,hl,hr⟩:=h
 obtain ⟨l,rfl⟩:=zgh (e:=putD) (fun r h'=>zub (hr r h'))
 exact ⟨l,by simpa using hl,by rw [ty183]⟩
theorem zsV {n:Nat} {x:List D} (h:DTy Tryz.prog (n+4) 25 x):∃d:Disk,DiskOk d∧x= [.str d.data,.sl 2 (d.cache.map putD),.int .i64 d.fuse,.bool d.off,.sl 1 (d.bad.map intD)]:=by
 unfold DTy at h
 simp only [ty25,DTy.fields] at h
 obtain ⟨a1,b1,rfl,g1,a2,b2,rfl,g2,a3,b3,rfl,g3,a4,b4,rfl,g4,a5,b5,rfl,g5,rfl⟩:=h
 obtain ⟨s,rfl,q1⟩:=zmK g1
 obtain ⟨l,q2,rfl⟩:=zsU g2
 obtain ⟨f,rfl,q3,q4⟩:=zeL g3
 obtain ⟨o,rfl⟩:=zgp g4
 obtain ⟨m,q5,rfl⟩:=zsT g5
 exact ⟨⟨s,l,f,o,m⟩,⟨q1,q2,q5,q3,q4⟩,rfl⟩
theorem ziC:∀ {parts:List (List D)},(∀p∈parts,∃b:Bool,p= [.bool b])→∃l:List Bool,parts.flatten=l.map D.bool∧l.length=parts.length
 | [],_=>⟨[],rfl,rfl⟩
 |p::r,h=>by
  obtain ⟨b,rfl⟩:=h p (by simp)
  obtain ⟨l,h1,h2⟩:=ziC (parts:=r) (fun q hq=>h q (by simp [hq]))
  exact ⟨b::l,by simp [h1],by simp [h2]⟩
theorem znE {n:Nat} {x:List D} (h:DTy Tryz.prog (n+3) 166 x):∃m:Dmap,(m.name.length≤9223372036854775807∧m.bits.length=64)∧x=dmapD m:=by
 unfold DTy at h
 simp only [ty166,DTy.fields] at h
 obtain ⟨a1,b1,rfl,g1,a2,b2,rfl,g2,a3,b3,rfl,g3,rfl⟩:=h
 obtain ⟨s,rfl,q1⟩:=zmK g1
 obtain ⟨u,rfl⟩:=zgp g2
 unfold DTy at g3
 simp only [ty164] at g3
 obtain ⟨parts,rfl,hl,hp⟩:=g3
 obtain ⟨l,h1,h2⟩:=ziC (fun p h'=>zgp (hp p h'))
 exact ⟨⟨s,u,l⟩,⟨q1,by rw [h2,hl]⟩,by simp [dmapD,h1]⟩
theorem zrg {n:Nat} {x:List D} (h:DTy Tryz.prog (n+4) 31 x):∃l:List Dmap,l.length≤9223372036854775807∧(∀m∈l,m.name.length≤9223372036854775807∧m.bits.length=64)∧x= [.sl 66 (l.map dmapD)]:=by
 unfold DTy at h
 simp only [ty31] at h
 obtain ⟨rows,rfl,hl,hr⟩:=h
 obtain ⟨l,rfl⟩:=zgh (e:=dmapD) (fun r h'=>(znE (hr r h')).imp fun s h=>h.2)
 refine ⟨l,by simpa using hl,fun m hm=>?_,by rw [ty166]⟩
 obtain ⟨m',h1,h2⟩:=znE (hr (dmapD m) (List.mem_map_of_mem hm))
 rw [zkQ _ _ h2]
 exact h1
theorem zrh {n:Nat} {x:List D} (h:DTy Tryz.prog (n+5) 33 x):∃X:Img,ImgW X∧x=imgD X:=by
 unfold DTy at h
 simp only [ty33,DTy.fields] at h
 obtain ⟨a1,b1,rfl,g1,a2,b2,rfl,g2,a3,b3,rfl,g3,a4,b4,rfl,g4,a5,b5,rfl,g5,rfl⟩:=h
 obtain ⟨d,q1,rfl⟩:=zsV g1
 unfold DTy at g2 g3
 simp only [ty27,DTy.fields] at g2
 simp only [ty30,DTy.fields] at g3
 obtain ⟨c1,e1,rfl,k1,c2,e2,rfl,k2,rfl⟩:=g2
 obtain ⟨c3,e3,rfl,k3,c4,e4,rfl,k4,rfl⟩:=g3
 obtain ⟨gu,rfl,r1,r2⟩:=zeL k1
 obtain ⟨ho,rfl,r3,r4⟩:=zeL k2
 unfold DTy at k3
 simp only [ty28] at k3
 obtain ⟨sq,rfl,r5,r6⟩:=k3
 obtain ⟨po,rfl,r7,r8⟩:=zeL k4
 obtain ⟨l,q2,q3,rfl⟩:=zrg g4
 obtain ⟨br,rfl⟩:=zgp g5
 exact ⟨⟨d,⟨gu,ho⟩,⟨sq,po⟩,l,br⟩,⟨⟨q1,q2,fun m hm=>(q3 m hm).1,fun m hm=>(q3 m hm).2⟩,r5,r6,r1,r2,r3,r4,r7,r8⟩,rfl⟩
theorem zri (X:Img):argAV Tryz.prog 33 (imgD X)=imgA X:=by simp only [argAV,ty33];rfl
theorem zrj (n:Int):argAV Tryz.prog 3 [.int .i64 n]= .d (.int .i64 n):=by simp only [argAV,ty3]
open Go Go.Proofs
theorem zit {d d':Disk} (h:d'.data.length=d.data.length) (a:Int):there d' a=there d a:=by unfold there dsize;rw [h]
theorem zkW (d:Disk):(burnt d).off=d.off:=by unfold burnt;split<;>rfl
theorem zkX (d:Disk):(burnt d).bad=d.bad:=by unfold burnt;split<;>rfl
theorem ziu (d:Disk) (a:Int):sees (burnt d) a=sees d a:=by unfold sees;rw [zeG,zcv]
theorem zmr {d:Disk} {a:Int} {s:Txt} (h:(zT d a s).2=0):
  d.off=false∧there d a=true∧d.bad.contains a=false∧s.length=64∧(zT d a s).1=burnt { d with cache:=d.cache++ [(a,s)] } :=by
 unfold zT at h ⊢
 split at h
 ·exact absurd h (by simp)
 split at h
 ·exact absurd h (by simp)
 split at h
 ·exact absurd h (by simp)
 split at h
 ·exact absurd h (by simp)
 split at h
 ·exact absurd h (by simp)
 split at h
 ·exact absurd h (by simp)
 rename_i h1 h2 h3 h4 h5 h6
 refine ⟨by simpa using h1,by simpa using h2,by simpa using h5,by omega,?_⟩
 rw [if_neg h1,if_neg h2,if_neg h3,if_neg h4,if_neg h5,if_neg h6]
theorem zms {d:Disk} {a:Int} {s:Txt} (h:(zT d a s).2=0) (b:Int):
  dread (zT d a s).1 b=if b=a then (s,0) else dread d b:=by
 obtain ⟨h1,h2,h3,h4,h5⟩:=zmr h
 rw [h5]
 unfold dread
 rw [zkW,zkX,ziu,zit (d:=d) (by rw [zcv])]
 simp only [h1,Bool.false_eq_true,if_false]
 have hs:sees { d with cache:=d.cache++ [(a,s)] } b=if b=a then s else sees d b:=by
  unfold sees
  simp only [List.reverse_append,List.reverse_singleton,List.singleton_append,List.find?_cons,isPut]
  by_cases e:b=a
  ·subst e;simp
  ·have:(a==b)=false:=by simpa using fun h=>e h.symm
   simp only [this,if_neg e]
 have hs2:sees { data:=d.data,cache:=d.cache++ [(a,s)],fuse:=d.fuse,off:=false,bad:=d.bad } b=if b=a then s else sees d b:=by rw [← hs,← h1]
 rw [hs2]
 by_cases e:b=a
 ·subst e
  simp only [h2,h3,Bool.not_true,Bool.false_eq_true,if_false,if_true]
 ·simp only [if_neg e]
theorem zmt {d:Disk} (h:(dflush d).2=0):d.off=false∧(dflush d).1=burnt { d with data:=zbF d.data d.cache,cache:= [] } :=by
 unfold dflush at h ⊢
 split at h
 ·exact absurd h (by simp)
 split at h
 ·exact absurd h (by simp)
 rename_i h1 h2
 rw [if_neg h1,if_neg h2]
 exact ⟨by simpa using h1,rfl⟩
theorem zt5 {b:Txt} {k:Nat} {s:Txt} (hs:s.length=64) (hk:k*64+64≤b.length) (i:Nat):
  ((lay b (k*64) s).drop (i*64)).take 64=if i=k then s else (b.drop (i*64)).take 64:=by
 unfold lay
 split
 ·rename_i e
  subst e
  have hl:(b.take (i*64)).length=i*64:=by rw [List.length_take];omega
  rw [List.append_assoc,List.drop_append_of_le_length (by omega),List.drop_of_length_le (by omega),List.nil_append,List.take_append_of_le_length (by omega),List.take_of_length_le (by omega)]
 ·rename_i e
  rcases Nat.lt_or_ge i k with hlt|hge
  ·have hl:(b.take (k*64)).length=k*64:=by rw [List.length_take];omega
   have hm:i*64+64≤k*64:=by omega
   rw [List.append_assoc,List.drop_append_of_le_length (by omega),List.take_append_of_le_length (by rw [List.length_drop];omega),List.drop_take,List.take_take,Nat.min_eq_left (by omega)]
  ·have hm:k*64+64≤i*64:=by omega
   have hl:(b.take (k*64)++s).length=k*64+64:=by rw [List.length_append,List.length_take];omega
   rw [List.drop_append,List.drop_of_length_le (by omega),List.nil_append,hl,List.drop_drop,hs]
   congr 2
   omega
theorem ziv {d:Disk} :∀ (l:List PutR) (b:Txt),b.length=d.data.length→l.all (putOk d)=true→∀ (a:Int),0≤a→
  ((zbF b l).drop (a*64).toNat).take 64=match l.reverse.find? (isPut a) with|some q=>q.2|none=>(b.drop (a*64).toNat).take 64
 | [],b,hb,hl,a,ha=>rfl
 | q::l,b,hb,hl,a,ha=>by
  simp only [List.all_cons,Bool.and_eq_true] at hl
  obtain ⟨h1,h2⟩:=hl
  unfold putOk at h1
  rw [Bool.and_eq_true,there_iff,beq_iff_eq] at h1
  obtain ⟨⟨h3,h4⟩,h5⟩:=h1
  obtain ⟨m,hm⟩:∃m:Nat,q.1=m:=⟨q.1.toNat,by omega⟩
  obtain ⟨i,rfl⟩:∃i:Nat,a=i:=⟨a.toNat,by omega⟩
  have hq:(q.1*64).toNat=m*64:=by omega
  have hk:m*64+64≤b.length:=by omega
  have hlen:(lay b (m*64) q.2).length=b.length:=zi5 (by omega)
  have ih:=ziv l (lay b (m*64) q.2) (by omega) h2 i (by omega)
  show (List.drop _ (zbF (lay b (q.1*64).toNat q.2) l)).take 64=_
  rw [hq,ih,List.reverse_cons,List.find?_append]
  cases hf:l.reverse.find? (isPut (i:Int)) with
  |some x=>simp
  | none=>
   simp only [Option.none_or,List.find?_singleton,isPut]
   have hs:=zt5 (b:=b) (k:=m) (s:=q.2) (by omega) hk i
   have hi:((i:Int)*64).toNat=i*64:=by omega
   rw [hi,hs]
   by_cases e:i=m
   ·subst e
    simp [hm]
   ·have:(q.1==(i:Int))=false:=by rw [hm];simp;omega
    simp [this,e]
theorem zhg {d:Disk} (hd:DiskF d) (h:(dflush d).2=0) (b:Int):dread (dflush d).1 b=dread d b:=by
 obtain ⟨h1,h2⟩:=zmt h
 have hl:(zbF d.data d.cache).length=d.data.length:=zfv hd.puts
 rw [h2]
 unfold dread
 rw [zkW,zkX,ziu,zit (d:=d) (by rw [zcv];exact hl)]
 by_cases ht:there d b=true
 ·have hs:sees { d with data:=zbF d.data d.cache,cache:= [] } b=sees d b:=by
   unfold sees
   simp only [List.reverse_nil,List.find?_nil]
   rw [there_iff] at ht
   exact ziv (d:=d) d.cache d.data rfl hd.puts b ht.1
  rw [hs]
 ·have ht:(!there d b)=true:=by simpa using ht
  simp only [ht,if_true]
def ze8 (l:List (Int×Txt)) (b:Int):Option Txt:=(l.reverse.find? (fun q=>q.1==b)).map (·.2)
theorem zhh (q:Int×Txt) (l:List (Int×Txt)) (b:Int):ze8 (q::l) b=(ze8 l b).or (if q.1=b then some q.2 else none):=by
 unfold ze8
 rw [List.reverse_cons,List.find?_append]
 cases hf:l.reverse.find? (fun q=>q.1==b) with
 |some x=>simp
 | none=>
  by_cases e:q.1=b
  ·simp [e]
  ·have:(q.1==b)=false:=by simpa using e
   simp [this,e]
theorem zfF:∀ (l:List (Int×Txt)) {d:Disk},(layL d l).2=0→∀b,dread (layL d l).1 b=match ze8 l b with|some s=>(s,0)|none=>dread d b
 | [],d,h,b=>rfl
 | q::l,d,h,b=>by
  rw [layL] at h ⊢
  by_cases hw:(zT d q.1 q.2).2=0
  ·rw [if_neg (by omega)] at h ⊢
   rw [zfF l h b,zhh]
   cases ze8 l b with
   |some x=>rfl
   |none=>
    simp only [Option.none_or]
    rw [zms hw]
    by_cases e:q.1=b
    ·rw [if_pos e.symm,if_pos e]
    ·rw [if_neg (fun h=>e h.symm),if_neg e]
  ·rw [if_pos hw] at h
   exact absurd h hw
theorem znq:∀ (l:List Txt) (a:Int) (q:Int×Txt),q∈numF a l→a≤q.1∧q.1<a+l.length
 | [],a,q,h=>by cases h
 | s::l,a,q,h=>by
  rw [numF,List.mem_cons] at h
  rcases h with rfl|h
  ·simp only [List.length_cons];omega
  ·have:=znq l (a+1) q h
   simp only [List.length_cons];omega
theorem zmu {l:List (Int×Txt)} {b:Int} (h:∀q∈l,q.1≠b):ze8 l b=none:=by
 unfold ze8
 rw [List.find?_eq_none.2]
 ·rfl
 ·intro q hq
  have:=h q (List.mem_reverse.1 hq)
  simpa using this
theorem zkY:∀ (t:List Int) (s:List Txt) (seen:List Int),pfitL seen t s=true→t.length=s.length→∀x∈t,x ∉ seen
 | [],_,_,_,_,x,h=>by cases h
 |a::r,[],_,_,hl,x,h=>by simp at hl
 |a::r,s::q,seen,hp,hl,x,h=>by
  simp only [pfitL,Bool.and_eq_true,Bool.not_eq_true'] at hp
  obtain ⟨⟨⟨_,h2⟩,_⟩,h4⟩:=hp
  rcases List.mem_cons.1 h with rfl|h
  ·simpa using h2
  ·exact fun hx=>zkY r q (seen++ [a]) h4 (by simpa using hl) x h (by simp [hx])
theorem ziw:∀ (t:List Int) (s:List Txt) (seen:List Int),pfitL seen t s=true→t.length=s.length→∀b,ze8 (t.zip s) b=if 0≤pfind t b then some (s.getD (pfind t b).toNat []) else none
 | [],s,seen,hp,hl,b=>by simp [ze8,pfind,idxP]
 |a::r,[],seen,hp,hl,b=>by simp at hl
 | a :: r,x::q,seen,hp,hl,b=>by
  have hp0:=hp
  simp only [pfitL,Bool.and_eq_true,Bool.not_eq_true'] at hp
  obtain ⟨⟨⟨_,h2⟩,_⟩,h4⟩:=hp
  have hl':r.length=q.length:=by simpa using hl
  have ih:=ziw r q (seen++ [a]) h4 hl' b
  have hn:=zkY r q (seen++ [a]) h4 hl'
  rw [List.zip_cons_cons,zhh,ih]
  have hidx:∀ (l:List Int) (k:Nat),idxP (fun y=>y==b) l k=if 0≤pfind l b then pfind l b+k else -1:=by
   intro l
   unfold pfind
   have hg:∀ (l:List Int) (k:Nat),idxP (fun y=>y==b) l k=if 0≤idxP (fun y=>y==b) l 0 then idxP (fun y=>y==b) l 0+k else -1:=by
    intro l
    induction l with
    |nil=>intro k;simp [idxP]
    | cons y l ih=>
     intro k
     simp only [idxP]
     by_cases e:(y==b)=true
     ·simp [e]
     ·simp only [e]
      have h1:=ih (k+1)
      have h2:=ih (0+1)
      by_cases h0:0≤idxP (fun y=>y==b) l 0
      ·rw [if_pos h0] at h1 h2
       rw [h1,h2]
       simp only [Bool.false_eq_true,if_false]
       rw [if_pos (by omega)]
       omega
      ·rw [if_neg h0] at h1 h2
       rw [h1,h2]
       simp
   exact hg l
  by_cases e:a=b
  ·subst e
   have hna:¬0≤pfind r a:=by
    intro hge
    rcases zaB r a with hc|⟨k,hk,hkl⟩
    ·omega
    ·have:a∈r:=by
      unfold pfind at hge
      have hex:∀ (l:List Int) (k:Nat),0≤idxP (fun y=>y==a) l k→a∈l:=by
       intro l
       induction l with
       |nil=>intro k h;simp [idxP] at h
       | cons y l ih=>
        intro k h
        simp only [idxP] at h
        by_cases e:(y==a)=true
        ·have:y=a:=by simpa using e
         simp [this]
        ·simp only [e,if_false] at h
         exact List.mem_cons_of_mem _ (ih _ h)
      exact hex r 0 hge
     exact hn a this (by simp)
   rw [if_neg hna]
   have:pfind (a::r) a=0:=by simp [pfind,idxP]
   rw [this]
   simp
  ·have hne:(a==b)=false:=by simpa using e
   have:pfind (a::r) b=if 0≤pfind r b then pfind r b+1 else -1:=by
    show idxP _ _ _=_
    simp only [idxP,hne]
    have:=hidx r (0+1)
    simpa using this
   rw [this]
   by_cases h0:0≤pfind r b
   ·have h2:(pfind r b+1).toNat=(pfind r b).toNat+1:=by omega
    have h3:0≤pfind r b+1:=by omega
    rw [if_pos h0,if_pos h0,if_pos h3,h2]
    simp
   ·rw [if_neg h0,if_neg h0,if_neg e,if_neg (by decide)]
    rfl
theorem zoI {d:Disk} {p:Plan} (hp:pfit p=true) (h:(play d p).2=0) (b:Int):dread (play d p).1 b=plook d p b:=by
 unfold play at h ⊢
 have hp0:=hp
 simp only [pfit,Bool.and_eq_true,decide_eq_true_eq] at hp
 rw [zfF _ h,ziw _ _ [] hp.2 hp.1.1]
 unfold plook
 split
 ·rename_i s hs
  split at hs
  ·rename_i hge
   rw [if_pos hge]
   simp only [Option.some.injEq] at hs
   rw [hs]
  ·cases hs
 ·rename_i hs
  split at hs
  ·cases hs
  ·rename_i hge
   rw [if_neg hge]
theorem zkZ {d:Disk} {j:Jour} {p:Plan} (hd:DiskF d) (hp:pfit p=true) (h:(jcommit d j p).2.2=0) {b:Int} (hb:b<6∨87≤b):dread (jcommit d j p).1 b=plook d p b:=by
 have hlen:=zag hp
 unfold jcommit at h ⊢
 split at h
 ·rename_i h0
  rw [if_pos h0]
  have:p.targets= []:=List.eq_nil_of_length_eq_zero h0
  unfold plook pfind
  rw [this]
  rfl
 rename_i h0
 rw [if_neg h0]
 split at h
 ·exact absurd h (by simp)
 rename_i h1
 rw [if_neg h1]
 split at h
 ·rename_i h2;exact absurd h h2
 rename_i h2
 have h2:(dflush d).2=0:=by simpa using h2
 rw [if_neg (by omega)]
 obtain ⟨L,hL⟩:∃L,L=zbL j.seq p:=⟨_,rfl⟩
 have hLl:=(zfA j.seq hp).1
 rw [← hL] at h hLl ⊢
 have hA:=zfz j.pos L.length
 obtain ⟨A,hAe⟩:∃A,A=zch j.pos L.length:=⟨_,rfl⟩
 have hAL:A+L.length≤81:=by
  rw [hAe];unfold zch;split<;>omega
 rw [← hAe] at h hA ⊢
 unfold jtail at h ⊢
 split at h
 ·rename_i h3;exact absurd h h3
 rename_i h3
 have h3:(layL (dflush d).1 (numF (6+A) L)).2=0:=by simpa using h3
 rw [if_neg (by omega)]
 split at h
 ·rename_i h4;exact absurd h h4
 rename_i h4
 have h4:(dflush (layL (dflush d).1 (numF (6+A) L)).1).2=0:=by simpa using h4
 rw [if_neg (by omega)]
 split at h
 ·rename_i h5;exact absurd h h5
 rename_i h5
 have h5:(play (dflush (layL (dflush d).1 (numF (6+A) L)).1).1 p).2=0:=by simpa using h5
 rw [if_neg (by omega)]
 simp only
 rw [zoI hp h5]
 have hf1:=hd.flush
 have hf2:DiskF (layL (dflush d).1 (numF (6+A) L)).1:=DiskF.layL _ hf1
 have hv:dread (dflush (layL (dflush d).1 (numF (6+A) L)).1).1 b=dread d b:=by
  rw [zhg hf2 h4,zfF _ h3,zmu]
  ·exact zhg hd h2 b
  ·intro q hq
   have:=znq L (6+A) q hq
   omega
 unfold plook
 rw [hv]
open Go Go.Proofs
theorem zsH {b s:Txt} {k:Nat} (h:k+s.length≤b.length):((lay b k s).drop k).take s.length=s:=by
 have hl:(b.take k).length=k:=by rw [List.length_take];omega
 unfold lay
 rw [List.append_assoc,List.drop_append_of_le_length (by omega),List.drop_of_length_le (by omega),List.nil_append,List.take_append_of_le_length (by omega),List.take_of_length_le (by omega)]
theorem zqR {b s:Txt} {k m n:Nat} (h:k+s.length≤b.length) (ho:m+n≤k∨k+s.length≤m):((lay b k s).drop m).take n=(b.drop m).take n:=by
 unfold lay
 rcases ho with ho|ho
 ·have hl:(b.take k).length=k:=by rw [List.length_take];omega
  rw [List.append_assoc,List.drop_append_of_le_length (by omega),List.take_append_of_le_length (by rw [List.length_drop];omega),List.drop_take,List.take_take,Nat.min_eq_left (by omega)]
 ·have hl:(b.take k++s).length=k+s.length:=by rw [List.length_append,List.length_take];omega
  rw [List.drop_append,List.drop_of_length_le (by omega),List.nil_append,hl,List.drop_drop]
  congr 2
  omega
theorem zqS {s t:Txt} {a:Int} (h:(overS s a t).2=0):0≤a∧a.toNat+t.length≤s.length∧(overS s a t).1=lay s a.toNat t:=by
 unfold overS at h ⊢
 split at h
 ·exact absurd h (by simp)
 rename_i h1
 rw [if_neg h1]
 refine ⟨by omega,by omega,?_⟩
 unfold lay
 rw [show (a+(t.length:Int)).toNat=a.toNat+t.length by omega]
theorem zk0 {l:List Int} {a:Int} {k:Nat} (h:pfind l a=k):l[k]?=some a:=by
 have hg:∀ (l:List Int) (n k:Nat),idxP (fun x=>x==a) l n=((n+k:Nat):Int)→l[k]?=some a:=by
  intro l
  induction l with
  |nil=>intro n k h;simp [idxP] at h;omega
  | cons y l ih=>
   intro n k h
   simp only [idxP] at h
   by_cases e:(y==a)=true
   ·simp only [e,if_true] at h
    have:k=0:=by omega
    subst this
    simpa using e
   ·simp only [e,if_false] at h
    cases k with
    |zero=>
     simp only [Bool.false_eq_true,if_false] at h
     rcases ze0 (fun x=>x==a) l (n+1) with hb|hb
     ·rw [hb] at h;omega
     ·omega
    |succ k=>
     simp only [Bool.false_eq_true,if_false] at h
     simpa using ih (n+1) k (by rw [h];congr 1;omega)
 exact hg l 0 k (by rw [Nat.zero_add];exact h)
theorem zqT {l:List Int} {a b:Int} :pfind (l++ [a]) b=if 0≤pfind l b then pfind l b else if a=b then (l.length:Int) else -1:=by
 have hg:∀ (l:List Int) (n:Nat),idxP (fun x=>x==b) (l++ [a]) n=if 0≤idxP (fun x=>x==b) l n then idxP (fun x=>x==b) l n else if a=b then ((n+l.length:Nat):Int) else -1:=by
  intro l
  induction l with
  | nil=>
   intro n
   by_cases e:a=b
   ·simp [idxP,e]
   ·have:(a==b)=false:=by simpa using e
    simp [idxP,e,this]
  | cons y l ih=>
   intro n
   simp only [List.cons_append,idxP]
   by_cases e:(y==b)=true
   ·simp only [e,if_true]
    rw [if_pos (by omega)]
   ·simp only [e,if_false]
    rw [ih (n+1)]
    simp only [List.length_cons]
    rw [show n+1+l.length=n+(l.length+1) by omega]
    rfl
 have:=hg l 0
 rw [Nat.zero_add] at this
 exact this
theorem zoJ {d:Disk} {p:Plan} {a:Int} {s:Txt} (h:(pset p a s).2=0) (hl:p.targets.length=p.texts.length) (b:Int):
  plook d (pset p a s).1 b=if b=a then (s,0) else plook d p b:=by
 unfold pset at h ⊢
 split at h
 ·exact absurd h (by simp)
 rename_i h1
 rw [if_neg h1]
 split at h
 ·exact absurd h (by simp)
 rename_i h2
 rw [if_neg h2]
 split at h
 ·rename_i h3
  rw [if_pos h3]
  unfold plook
  simp only
  rcases zaB p.targets a with hk|⟨k,hk,hkl⟩
  ·omega
  rw [hk,Int.toNat_natCast]
  by_cases e:b=a
  ·subst e
   rw [if_pos rfl,hk,if_pos (by omega),Int.toNat_natCast]
   simp [List.getD_eq_getElem?_getD,show k<p.texts.length by omega]
  ·rw [if_neg e]
   rcases zaB p.targets b with hb|⟨m,hm,hml⟩
   ·rw [if_neg (by omega),if_neg (by omega)]
   ·rw [if_pos (by omega),if_pos (by omega),hm,Int.toNat_natCast]
    have hne:k≠m:=by
     rintro rfl
     have e1:=zk0 hk
     have e2:=zk0 hm
     rw [e1] at e2
     exact e (Option.some.inj e2).symm
    simp [List.getD_eq_getElem?_getD,List.getElem?_set_ne hne]
 ·rename_i h3
  rw [if_neg h3]
  split at h
  ·exact absurd h (by simp)
  rename_i h4
  rw [if_neg h4]
  unfold plook
  simp only
  rw [zqT]
  by_cases e:b=a
  ·subst e
   rw [if_pos rfl,if_neg h3,if_pos rfl,if_pos (by omega),Int.toNat_natCast,hl]
   simp
  ·rw [if_neg e]
   by_cases hb:0≤pfind p.targets b
   ·rw [if_pos hb,if_pos hb,if_pos hb]
    rcases zaB p.targets b with hc|⟨m,hm,hml⟩
    ·omega
    ·rw [hm,Int.toNat_natCast,List.getD_eq_getElem?_getD,List.getElem?_append_left (by omega),← List.getD_eq_getElem?_getD]
   ·rw [if_neg hb,if_neg hb,if_neg (fun h:a=b=>e h.symm),if_neg (by decide)]
theorem zix {d:Disk} {p:Plan} {a off:Int} {s:Txt} (h:(zcg d p a off s).2=0):(plook d p a).2=0∧(overS (plook d p a).1 off s).2=0∧zcg d p a off s=pset p a (overS (plook d p a).1 off s).1:=by
 unfold zcg at h ⊢
 split at h
 ·rename_i h1;exact absurd h h1
 rename_i h1
 rw [if_neg h1]
 split at h
 ·rename_i h2;exact absurd h h2
 rename_i h2
 rw [if_neg h2]
 exact ⟨by simpa using h1,by simpa using h2,rfl⟩
theorem zhi {d:Disk} {p:Plan} {a off:Int} {s:Txt} (h:(zcg d p a off s).2=0) (hl:p.targets.length=p.texts.length) (b:Int):
  plook d (zcg d p a off s).1 b=if b=a then (lay (plook d p a).1 off.toNat s,0) else plook d p b:=by
 obtain ⟨h1,h2,h3⟩:=zix h
 rw [h3] at h ⊢
 rw [zoJ h hl,(zqS h2).2.2]
theorem zoK (c:UInt8) (l:Txt):takeN (c::l)=c.toNat*256 ^ l.length+takeN l:=by
 have hg:∀ (l:Txt) (n:Nat),l.foldl (fun n c=>n*256+c.toNat) n=n*256 ^ l.length+l.foldl (fun n c=>n*256+c.toNat) 0:=by
  intro l
  induction l with
  |nil=>intro n;simp
  |cons c l ih=>
   intro n
   simp only [List.foldl_cons,List.length_cons]
   rw [ih (n*256+c.toNat),ih (0*256+c.toNat),Nat.zero_mul,Nat.zero_add,Nat.add_mul,Nat.mul_assoc,Nat.pow_succ,Nat.mul_comm 256,Nat.add_assoc]
 unfold takeN
 rw [List.foldl_cons,hg]
 simp
theorem zk1 (n:Nat):∀k,takeN (putN n k)=n % 256 ^ k
 |0=>by simp [putN,takeN,Nat.mod_one]
 |k+1=>by
  rw [zgS,zoK,zB,zk1 n k]
  have h1:(UInt8.ofNat (n / 256 ^ k)).toNat=n / 256 ^ k % 256:=by simp
  rw [h1,Nat.pow_succ,Nat.mod_mul,Nat.mul_comm,Nat.add_comm]
theorem zqU {d:Disk} {p:Plan} {k by_:Int} (hd:DP d p) (h:(radd d p k by_).2=0) (k':Int):
  rget d (radd d p k by_).1 k'=if k'=k then ((rget d p k).1+by_,0) else rget d p k':=by
 unfold radd at h ⊢
 split at h
 ·rename_i h1;exact absurd h h1
 rename_i h1
 have h1':(rget d p k).2=0:=by simpa using h1
 rw [if_neg h1]
 split at h
 ·exact absurd h (by simp)
 rename_i h2
 rw [if_neg h2]
 obtain ⟨hk0,hk1⟩:=zjh h1'
 have hr:=zcW d p k
 have hv:=zhi h hd.plen
 obtain ⟨g1,g2,_⟩:=zix h
 have h64:=zb0 hd g1
 have hpl:(putN ((rget d p k).1+by_).toNat 2).length=2:=zB _ _
 obtain ⟨c,hc⟩:∃c,c=(rget d p k).1+by_:=⟨_,rfl⟩
 rw [← hc] at hv hpl ⊢
 have hc0:0≤c∧c≤65535:=by omega
 by_cases e:k'=k
 ·subst e
  rw [if_pos rfl]
  rw [rget,if_neg (by rw [hostOk_iff.2 ⟨hk0,hk1⟩];exact Bool.false_ne_true),hv,if_pos rfl,if_neg (by simp)]
  have hoff:(2*(k' % 32)).toNat+2≤64:=by omega
  have hls:=zsH (b:=(plook d p (87+k' / 32)).1) (s:=putN c.toNat 2) (k:=(2*(k' % 32)).toNat) (by omega)
  rw [hpl] at hls
  simp only
  rw [hls,zk1]
  congr 1
  omega
 ·rw [if_neg e]
  by_cases hk':zD k'=true
  ·obtain ⟨hh0,hh1⟩:=hostOk_iff.1 hk'
   have hn:¬(!zD k')=true:=by rw [hk'];decide
   unfold rget
   rw [if_neg hn,if_neg hn,hv]
   by_cases es:87+k' / 32=87+k / 32
   ·rw [if_pos es,es,if_neg (by simp),if_neg (by omega)]
    simp only
    rw [zqR (by omega) (by omega)]
   ·rw [if_neg es]
  ·unfold rget
   rw [if_pos (by simpa using hk'),if_pos (by simpa using hk')]
theorem zoL {d:Disk} {p:Plan} {k by_:Int} (hd:DP d p) (h:(radd d p k by_).2=0) {b:Int} (hb:b<87∨95≤b):plook d (radd d p k by_).1 b=plook d p b:=by
 unfold radd at h ⊢
 split at h
 ·rename_i h1;exact absurd h h1
 rename_i h1
 have h1':(rget d p k).2=0:=by simpa using h1
 rw [if_neg h1]
 split at h
 ·exact absurd h (by simp)
 rename_i h2
 rw [if_neg h2]
 obtain ⟨hk0,hk1⟩:=zjh h1'
 rw [zhi h hd.plen,if_neg (by omega)]
open Go Go.Proofs
structure Fnd where
 loc:Int
 want:Int
 have_:Int
 deriving DecidableEq
def fndA (s:Fnd):AV:= .agg [.d (.int .i64 s.loc),.d (.int .i64 s.want),.d (.int .i64 s.have_)]
attribute [go_sem] fndA
theorem zt6 (s:Fnd):Fnd.mk s.loc s.want s.have_=s:=rfl
noncomputable def zti:PT Fnd:=aggT (consL (intT .i64) (consL (intT .i64) (consL (intT .i64) nilL))) (fun p=>⟨p.1,p.2.1,p.2.2.1⟩) (fun x=>(x.loc,x.want,x.have_,())) (fun _=>rfl)
attribute [go_sem] zti
attribute [go_sem] zt6
def fndD (s:Fnd):List D:= [.int .i64 s.loc,.int .i64 s.want,.int .i64 s.have_]
theorem zc2:∀a b,fndD a=fndD b→a=b:=by
 rintro ⟨a,b,c⟩ ⟨a',b',c'⟩ h
 simp only [fndD,List.cons.injEq,D.int.injEq,true_and,and_true] at h
 rw [h.1,h.2.1,h.2.2]
def firsts (d:Disk):List Int×Int:=
 if (zy d p0).2≠0 then ([],(zy d p0).2) else if (snaps d p0).2≠0 then ([],(snaps d p0).2)
 else ((zy d p0).1.l1::((snaps d p0).1.filter (fun s=>s.id !=0)).map (·.l1),0)
def cntK (d:Disk) (host:Int):List Int→List Int→List Int×Int
 | [],a=>(a,0)
 |t::r,a=>if host≤t then ([],26) else if (reach d p0 t).2≠0 then ([],(reach d p0 t).2)
  else if (reach d p0 t).1.any (fun k=>decide (host≤k)) then ([],26) else cntK d host r (a++((reach d p0 t).1++ [t]))
def cnts (n:Nat) (a:List Int):List Int:=(List.range n).map fun (k:Nat)=>((a.count (k:Int):Nat):Int)
def zW (x:Img):List Int×Int:=
 if (firsts x.disk).2≠0 then ([],(firsts x.disk).2) else if (cntK x.disk x.geom.host (firsts x.disk).1 []).2≠0 then ([],(cntK x.disk x.geom.host (firsts x.disk).1 []).2)
 else (cnts x.geom.host.toNat (cntK x.disk x.geom.host (firsts x.disk).1 []).1,0)
def fnds:Nat→List Int→List Int→List Fnd
 |_,[],_=> []
 |_,_::_,[]=> []
 |k,w::ws,h::hs=>if h≠w then ⟨k,w,h⟩::fnds (k+1) ws hs else fnds (k+1) ws hs
def zK (x:Img):List Fnd×Int:=
 if (zW x).2≠0 then ([],(zW x).2) else if (rall x.disk p0 x.geom.host).2≠0 then ([],(rall x.disk p0 x.geom.host).2)
 else (fnds 0 (zW x).1 (rall x.disk p0 x.geom.host).1,0)
def ziy (x:Img):Bool:= !((zK x).1.any fun f=>decide (f.have_<f.want))&&((zK x).2==0)
def addsK (d:Disk):List Fnd→Plan→Plan×Int
 | [],p=>(p,0)
 |f::r,p=>if (radd d p f.loc (f.want - f.have_)).2≠0 then (p,(radd d p f.loc (f.want - f.have_)).2) else addsK d r (radd d p f.loc (f.want - f.have_)).1
def amend (x:Img):Img×Int:=
 if x.broken then (x,24) else if (zK x).2≠0 then (x,(zK x).2) else if (addsK x.disk (zK x).1 p0).2≠0 then (x,(addsK x.disk (zK x).1 p0).2)
 else cdone x (addsK x.disk (zK x).1 p0).1
theorem za6 (n:Nat) (a:List Int):(cnts n a).length=n:=by simp [cnts]
theorem zgm {n k:Nat} (a:List Int) (h:k<n):(cnts n a)[k]?=some ((a.count (k:Int):Nat):Int):=by simp [cnts,h]
theorem zqV {n:Nat} {a b:List Int} (h:a.Perm b):cnts n a=cnts n b:=by
 unfold cnts
 congr 1
 funext k
 rw [h.count_eq]
theorem znr {n k:Nat} (a:List Int) (h:k<n):(cnts n a).set k (((a.count (k:Int):Nat):Int)+1)=cnts n (a++ [(k:Int)]):=by
 apply List.ext_getElem?
 intro i
 rcases Nat.lt_or_ge i n with hi|hi
 ·rw [zgm _ hi,List.count_append]
  by_cases e:k=i
  ·subst e
   rw [List.getElem?_set_self (by rw [za6];exact h)]
   simp
  ·rw [List.getElem?_set_ne e,zgm _ hi]
   have hz:List.count (i:Int) [(k:Int)]=0:=List.count_eq_zero.2 (by simp;omega)
   rw [hz,Nat.add_zero]
 ·rw [List.getElem?_eq_none (by simp [za6];omega),List.getElem?_eq_none (by rw [za6];omega)]
theorem ziz {d:Disk} {p:Plan} {t:Int} :∀ (m:Nat) (k:Int) (l:List Int),(∀x∈l,0≤x∧x<256)→∀x∈(reachJ d p t m k l).1,0≤x∧x<256
 |0,k,l,h=>h
 | m +1,k,l,h=>by
  rw [reachJ]
  by_cases he:(eget d p t k).2=0
  ·rw [if_neg (by omega)]
   refine ziz m (k+1) _ ?_
   split
   ·rename_i hk
    obtain ⟨hx1,_⟩:=zg6 he
    have:=zdp hx1
    intro x hx
    rcases List.mem_append.1 hx with hx|hx
    ·exact h x hx
    ·rw [List.mem_singleton] at hx
     subst hx
     exact ⟨this.2.1,this.2.2⟩
   ·exact h
  ·rw [if_pos he]
   intro x hx
   cases hx
theorem zfG {d:Disk} {p:Plan} {t:Int} :∀ (m:Nat) (k:Int) (l:List Int),(∀x∈l,0≤x∧x<256)→∀x∈(reachI d p t m k l).1,0≤x∧x<256
 |0,k,l,h=>h
 | m +1,k,l,h=>by
  rw [reachI]
  by_cases he:(eget d p t k).2=0
  ·rw [if_neg (by omega)]
   obtain ⟨hx1,_⟩:=zg6 he
   have hr:=zdp hx1
   have h2:∀x∈l++ [(eget d p t k).1.loc],0≤x∧x<256:=by
    intro x hx
    rcases List.mem_append.1 hx with hx|hx
    ·exact h x hx
    ·rw [List.mem_singleton] at hx
     subst hx
     exact ⟨hr.2.1,hr.2.2⟩
   split
   ·intro x hx;cases hx
   split
   ·exact zfG m _ l h
   split
   ·intro x hx;cases hx
   ·exact zfG m _ _ (ziz _ _ _ h2)
  ·rw [if_pos he]
   intro x hx
   cases hx
theorem zk2 {d:Disk} {p:Plan} {t:Int} :∀x∈(reach d p t).1,0≤x∧x<256:=zfG _ _ _ (fun x hx=>by cases hx)
theorem ziA {d:Disk} {p:Plan} {t:Int} :∀ (m:Nat) (k:Int) (l:List Int),(reachJ d p t m k l).1.length≤l.length+m
 |0,k,l=>Nat.le_refl _
 | m+1,k,l=>by
  rw [reachJ]
  split
  ·simp
  ·refine Nat.le_trans (ziA m (k+1) _) ?_
   split
   ·simp only [List.length_append,List.length_singleton];omega
   ·omega
theorem zfH {d:Disk} {p:Plan} {t:Int} :∀ (m:Nat) (k:Int) (l:List Int),(reachI d p t m k l).1.length≤l.length+17*m
 |0,k,l=>Nat.le_refl _
 | m+1,k,l=>by
  rw [reachI]
  split
  ·simp
  split
  ·simp
  split
  ·refine Nat.le_trans (zfH m (k+1) _) ?_;omega
  split
  ·simp
  ·refine Nat.le_trans (zfH m (k+1) _) ?_
   have:=ziA (d:=d) (p:=p) (t:=(eget d p t k).1.loc) 16 0 (l++ [(eget d p t k).1.loc])
   simp only [List.length_append,List.length_singleton] at this
   omega
theorem ze9 {d:Disk} {p:Plan} {t:Int} :(reach d p t).1.length≤68:=by
 exact zfH (d:=d) (p:=p) (t:=t) 4 0 []
end Go.Aw
