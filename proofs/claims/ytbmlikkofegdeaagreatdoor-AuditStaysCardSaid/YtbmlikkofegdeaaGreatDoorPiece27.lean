/-
  Parts of the proof: RootB, TabA, TabB, TabC (short names; the readable texts lie in the repo, under wip).
-/
import Derived.Test.YtbmlikkofegdeaaGreatDoorPiece26
import Derived.Test.YtbmlikkofegdeaaGreatDoorPiece17
import Derived.Test.YtbmlikkofegdeaaGreatDoorPiece23
set_option maxRecDepth 100000
set_option maxHeartbeats 2000000
set_option linter.unusedSimpArgs false
set_option linter.unusedVariables false
namespace Go.Aw
open Go Go.Proofs
structure Snp where
 id:Int
 l1:Int
 name:Txt
 deriving DecidableEq
def snpA (s:Snp):AV:= .agg [.d (.int .u32 s.id),.d (.int .i64 s.l1),.d (.str s.name)]
attribute [go_sem] snpA
theorem zxc (s:Snp):Snp.mk s.id s.l1 s.name=s:=rfl
noncomputable def zhO:PT Snp:=aggT (consL (intT .u32) (consL (intT .i64) (consL strT nilL))) (λp=>⟨p.1,p.2.1,p.2.2.1⟩) (λx=>(x.id,x.l1,x.name,())) (λ_=>rfl)
attribute [go_sem] zhO
attribute [go_sem] zxc
def snpD (s:Snp):List D:= [.int .u32 s.id,.int .i64 s.l1,.str s.name]
theorem zh8:∀a b,snpD a=snpD b->a=b:=by rintro ⟨a,b,c⟩ ⟨a',b',c'⟩ h;simp only [snpD,List.cons.injEq,D.str.injEq,D.int.injEq,true_and,and_true] at h;rw [h.1,h.2.1,h.2.2]
def z16:Txt:=List.replicate 16 0
def snp0:Snp:=⟨0,0,[]⟩
def snpB (s:Snp):Txt×Bool:=
 if s.id=0/\s.l1=0/\s.name= [] then (z16,true)
 else if s.id=0\/zaq s.name=false\/zG s.l1=false then ([],false)
 else (putN s.id.toNat 4++putN s.l1.toNat 2++ [0,0]++(nameS s.name).1,true)
def cutZ (s:Txt):Txt:=(s.reverse.dropWhile (· ==0)).reverse
def zdY (s:Txt):Txt×Int:=if s.length≠8 then ([],11) else if zaq (cutZ s) then (cutZ s,0) else ([],19)
def snpR (b:Txt):Snp:=⟨((takeN (b.take 4):Nat):Int),((takeN ((b.drop 4).take 2):Nat):Int),(zdY (b.drop 8)).1⟩
def snpT (b:Txt):Snp:=if b=z16 then snp0 else snpR b
def snpOk (b:Txt):Bool:=(snpB (snpT b)).2&&((snpB (snpT b)).1==b)
def slotB (s:Txt) (i:Nat):Txt:=(s.take ((i % 4+1)*16)).drop (i % 4*16)
def snapsK (d:Disk) (p:Plan):Nat->Nat->List Snp->List Snp×Int
 |0,_,l=>(l,0)
 |m+1,i,l=>if (plook d p (2+(i / 4:Nat))).2≠0 then ([],(plook d p (2+(i / 4:Nat))).2)
  else if snpOk (slotB (plook d p (2+(i / 4:Nat))).1 i) then snapsK d p m (i+1) (l++ [snpT (slotB (plook d p (2+(i / 4:Nat))).1 i)]) else ([],14)
def snaps (d:Disk) (p:Plan):List Snp×Int:=snapsK d p 8 0 []
def setsnap (d:Disk) (p:Plan) (i:Int) (s:Snp):Plan×Int:=
 if i<0\/8<=i then (p,10) else if (snpB s).2=false then (p,25) else zcq d p (2+i / 4) (i % 4*16) (snpB s).1
theorem zeD {s:Txt} (h:zaq s=true):(nameS s).1.length=8/\(nameS s).2=0/\(nameS s).1=s++List.replicate (8 - s.length) 0:=by
 have h8:s.length<=8:=by unfold zaq at h;simp only [Bool.and_eq_true,decide_eq_true_eq] at h;exact h.2.2
 have e:nameS s=(s++List.replicate (8 - s.length) 0,0):=by rw [nameS,if_pos h,padS,if_neg (by omega)];congr 3;omega
 rw [e];refine ⟨?_,rfl,rfl⟩;rw [List.length_append,List.length_replicate];omega
theorem zn4 (n:Int) (hp:0<=n/\n<=1000000):AC 182 [.d (.int .i64 n)] (.d (.str (List.replicate n.toNat 0))):=by
 obtain ⟨h0,h1⟩:=hp;refine fbod Tryz.func182 Tryz.ntmps182 (λbase=>?_);refine' zc (zah @zex @ziF @zla @if_true.{1})
 ·exact zbt _
 all_goals first|rfl|simp only [zap]
@[go_sem] noncomputable def zal:Ent Tryz.prog 182:= .m1 (intT .i64) zn4
theorem zsS (s:Txt) (hs:s.length<=9223372036854775807):AC 197 [.d (.str s)] (.tup [.d (.str (nameS s).1),.d (.int .i64 (nameS s).2)]):=by
 refine fbod Tryz.func197 Tryz.ntmps197 (λbase=>?_);cases hn:zaq s with
 |false=>
  refine' walkW hn (za zS <| za zez <| zb _);rw [nameS,if_neg (by rw [hn];decide)]
 |true=>
  refine' walkW hn (za zS <| za zez <| zb _);rw [nameS,if_pos hn]
@[go_sem] noncomputable def zgo:Ent Tryz.prog 197:= .m1 strT zsS
theorem zhk (s:Txt):((nameS s).2 !=0)= !zaq s:=by
 cases h:zaq s with
 |true=>rw [(zeD h).2.1];rfl
 |false=>rw [nameS,if_neg (by rw [h];decide)];rfl
theorem zqL (s:Snp) (hp:0<=s.id/\s.id<=4294967295/\s.name.length<=9223372036854775807):AC 133 [snpA s] (.tup [.d (.str (snpB s).1),.d (.bool (snpB s).2)]):=by
 obtain ⟨h0,h1,hn⟩:=hp;refine fbod Tryz.func133 Tryz.ntmps133 (λbase=>?_);by_cases hz:s.id=0/\s.l1=0/\s.name= []
 ·have hb:(s.id==0&&(s.l1==0&&s.name== []))=true:=by simpa using hz
  refine' walkW hb (za zal <| za zgo <| za zaX <| za zat <| zb _);rw [snpB,if_pos hz];rfl
 have hb:(s.id==0&&(s.l1==0&&s.name== []))=false:=by rw [Bool.eq_false_iff];simpa using hz
 by_cases hc:s.id=0\/zaq s.name=false\/zG s.l1=false
 ·have hb2:(s.id==0|| !zaq s.name|| !zG s.l1)=true:=by simpa [or_assoc] using hc
  refine' walkW (zB hb @zhk hb2) (za zal <| za zgo <| za zaX <| za zat <| zb _);rw [snpB,if_neg hz,if_pos hc]
 have hb2:(s.id==0|| !zaq s.name|| !zG s.l1)=false:=by rw [Bool.eq_false_iff];simpa [or_assoc] using hc
 simp only [not_or,Bool.not_eq_false] at hc;obtain ⟨hk0,hk1⟩:=hostOk_iff.1 hc.2.2;have hw:IntKind.u64.wrap s.id=s.id:=zad h0 (by omega);have hw2:IntKind.u64.wrap s.l1=s.l1:=zad (by omega) (by omega);have hp1:=zK s.id.toNat 4;have hp2:=zK s.l1.toNat 2;have hp3:=(zeD hc.2.1).1;refine' walkW (zL hb @zhk hb2 hw hw2 (zn @ziU @zkn)) (za zal <| za zgo <| za zaX <| za zat <| zb _);all_goals first|(simp only [List.length_append,List.length_cons,List.length_nil];omega)|skip
 rw [snpB,if_neg hz,if_neg (by simpa using hc)]
@[go_sem] noncomputable def zaB:Ent Tryz.prog 133:= .m1 zhO zqL
theorem zgL (l:Txt):cutZ (l++ [0])=cutZ l:=by simp [cutZ]
theorem zfT (l:Txt) (c:UInt8) (h:c≠0):cutZ (l++ [c])=l++ [c]:=by
 have:(c==0)=false:=by simpa using h
 simp [cutZ,List.dropWhile_cons,this]
theorem zn5 (s:Txt) (hs:s.length<=9223372036854775807):AC 183 [.d (.str s)] (.tup [.d (.str (zdY s).1),.d (.int .i64 (zdY s).2)]):=by
 refine fbod Tryz.func183 Tryz.ntmps183 (λbase=>?_);by_cases h8:s.length=8
 ·have hb:((s.length:Int) !=8)=false:=by rw [h8];rfl
  have htn:zdY s=if zaq (cutZ s) then (cutZ s,0) else ([],19):=by rw [zdY,if_neg (λh=>h h8)]
  refine' walkW hb (za zS <| zb _);refine zq (λq: { n:Nat // n<=s.length/\cutZ s=cutZ (s.take n) } =>⟨[(0,true,.d (.str s)),(4,true,.d (.int .i64 q.1))],[],some []⟩) (λq=>q.1) ⟨s.length,Nat.le_refl _,by rw [List.take_length]⟩ le0 (λq=>?_);obtain ⟨n,hn,hf⟩:=q;simp only at hn hf ⊢;cases n with
  |zero=>
   have hg:decide ((0:Int)<((0:Nat):Int))=false:=rfl;have hnn:zaq []=false:=by decide
   refine' walkW (zn hg hnn) (za zS <| zb _);rw [htn,hf];rfl
  | succ n=>
   have hg:decide ((0:Int)<((n+1:Nat):Int))=true:=decide_eq_true (by omega);have hw:IntKind.i64.wrap (((n+1:Nat):Int) - 1)=(n:Int):=by rw [zg (by omega) (by omega)];omega
   obtain ⟨c,hq⟩:=zas (l:=s) (i:=n) (by omega);have hget:List.getD s n 0=c:=by rw [List.getD_eq_getElem?_getD,hq];rfl
   have htk:=zb7 hq;by_cases h0:c=0
   ·have hz:((c.toNat:Int)==0)=true:=by rw [h0];rfl
    (have tk:=za zS <| zb Tryz.prog);repeat' (first|((first|(refine sa ?_;intro K hK)|refine sb ?_);simp only [go_sem,aeq,aeq.aeqF,simprocAttr,hg,hw,hget,hz,Tryz.results183])|refine zaM (λK hK=>?_)|refine sc ?_|refine zbA rfl (λhc=>?_) (λhc=>?_)|(refine hK _ ?_;clear hK K)|with_reducible refine And.intro ?_ ?_|omega|assumption|refine λ(hg:(_:Bool)=(_:Bool))=>?_|clear hK K)
    exact ⟨⟨n,by omega,by rw [hf,htk,h0,zgL]⟩,by simp only [AS.le,leT,leH,zf,AsgK,AV.le,AV.leL,AObj.le,inH,idsT,idsH,AV.ids,AV.idsL,AV.idsR,AObj.ids,lk,hget,go_sem,aeq,aeq.aeqF,simprocAttr],by simp⟩
   ·have hz:((c.toNat:Int)==0)=false:=by rw [beq_eq_false_iff_ne];intro h;exact h0 (UInt8.toNat_inj.1 (by simpa using h))
    have hcz:cutZ s=s.take (n+1):=by rw [hf,htk,zfT _ _ h0]
    have hl:(s.take (n+1)).length<=9223372036854775807:=by rw [List.length_take];omega
    rw [hcz] at htn;cases hnm:zaq (s.take (n+1)) with
    |false=>
     (have tk:=za zS <| zb Tryz.prog);repeat' (first|((first|(refine sa ?_;intro K hK)|refine sb ?_);simp only [go_sem,aeq,aeq.aeqF,simprocAttr,hg,hw,hget,hz,hnm,Tryz.results183])|refine zaM (λK hK=>?_)|refine sc ?_|refine zbA rfl (λhc=>?_) (λhc=>?_)|(refine hK _ ?_;clear hK K)|with_reducible refine And.intro ?_ ?_|omega|assumption|refine λ(hg:(_:Bool)=(_:Bool))=>?_|clear hK K)
     rw [htn,if_neg (by rw [hnm];decide)]
    |true=>
     (have tk:=za zS <| zb Tryz.prog);repeat' (first|((first|(refine sa ?_;intro K hK)|refine sb ?_);simp only [go_sem,aeq,aeq.aeqF,simprocAttr,hg,hw,hget,hz,hnm,Tryz.results183])|refine zaM (λK hK=>?_)|refine sc ?_|refine zbA rfl (λhc=>?_) (λhc=>?_)|(refine hK _ ?_;clear hK K)|with_reducible refine And.intro ?_ ?_|omega|assumption|refine λ(hg:(_:Bool)=(_:Bool))=>?_|clear hK K)
     rw [htn,if_pos hnm]
 ·have hb:((s.length:Int) !=8)=true:=by simp;omega
  refine' walkW hb (za zS <| zb _);rw [zdY,if_pos h8]
@[go_sem] noncomputable def za9:Ent Tryz.prog 183:= .m1 strT zn5
theorem zkp {d:Disk} {p:Plan} :∀ (m i:Nat) (l:List Snp),(snapsK d p m i l).1.length<=l.length+m
 |0,i,l=>Nat.le_refl _
 | m+1,i,l=>by
  rw [snapsK];split
  ·simp
  split
  ·refine Nat.le_trans (zkp m (i+1) _) ?_;simp only [List.length_append,List.length_singleton];omega
  ·simp
theorem zgM {d:Disk} {p:Plan} :(snaps d p).1.length<=8:=by
 exact zkp (d:=d) (p:=p) 8 0 []
def SnpFit (s:Snp):Prop:=0<=s.id/\s.id<=4294967295/\s.name.length<=8/\(snpB s).2=true
theorem zqM (b:Txt):(zdY b).1.length<=8:=by
 unfold zdY;split
 ·decide
 split
 ·rename_i h;unfold zaq at h;simp only [Bool.and_eq_true,decide_eq_true_eq] at h;exact h.2.2
 ·decide
theorem zlo (b:Txt):0<=(snpT b).id/\(snpT b).id<=4294967295/\(snpT b).name.length<=8/\0<=(snpT b).l1/\(snpT b).l1<=65535:=by
 unfold snpT;split
 ·decide
 ·have h1:=zcg (l:=b.take 4) (i:=4) (by rw [List.length_take];omega);have h2:=zcg (l:=(b.drop 4).take 2) (i:=2) (by rw [List.length_take];omega);have h3:=zqM (b.drop 8);unfold snpR;simp only;omega
theorem zkq {d:Disk} {p:Plan} :∀ (m i:Nat) (l:List Snp),(∀s∈l,SnpFit s)->∀s∈(snapsK d p m i l).1,SnpFit s
 |0,i,l,h=>h
 | m+1,i,l,h=>by
  rw [snapsK];split
  ·intro s hs;cases hs
  split
  ·rename_i hok;refine zkq m (i+1) _ (λs hs=>?_);rcases List.mem_append.1 hs with hs|hs
   ·exact h s hs
   ·rw [List.mem_singleton] at hs;subst hs;obtain ⟨h1,h2,h3,_,_⟩:=zlo (slotB (plook d p (2+(i / 4:Nat))).1 i);unfold snpOk at hok;rw [Bool.and_eq_true] at hok;exact ⟨h1,h2,h3,hok.1⟩
  ·intro s hs;cases hs
theorem ziX {d:Disk} {p:Plan} :∀s∈(snaps d p).1,SnpFit s:=zkq 8 0 [] (λs hs=>by cases hs)
theorem SnpFit.l1 {s:Snp} (h:SnpFit s):0<=s.l1/\s.l1<256:=by
 obtain ⟨_,_,_,h⟩:=h;unfold snpB at h;split at h
 ·rename_i hz;omega
 split at h
 ·cases h
 ·rename_i hc;simp only [not_or,Bool.not_eq_false] at hc;exact hostOk_iff.1 hc.2.2
open Go Go.Proofs
structure Ent2 where
 kind:Int
 loc:Int
 deriving DecidableEq
def entA (x:Ent2):AV:= .agg [.d (.int .i64 x.kind),.d (.int .i64 x.loc)]
attribute [go_sem] entA
theorem zxd (x:Ent2):Ent2.mk x.kind x.loc=x:=rfl
noncomputable def zgN:PT Ent2:=aggT (consL (intT .i64) (consL (intT .i64) nilL)) (λp=>⟨p.1,p.2.1⟩) (λx=>(x.kind,x.loc,())) (λ_=>rfl)
attribute [go_sem] zgN
attribute [go_sem] zxd
def entOk (x:Ent2):Bool:=if x.kind=1 then zG x.loc else (x.kind==0||x.kind==2)&&x.loc==0
def zbg (x:Ent2):Txt:= [UInt8.ofNat x.kind.toNat,0,0,0]++putN x.loc.toNat 4
def entOf (s:Txt):Ent2:=⟨((s.getD 0 0).toNat:Int),((takeN ((s.drop 4).take 4):Nat):Int)⟩
def entT (s:Txt):Ent2×Int:=if entOk (entOf s)=false\/zbg (entOf s)≠s then (⟨0,0⟩,14) else (entOf s,0)
def eRef (table i:Int):Bool:= !zG table||decide (i<0)||decide (16<=i)
def eget (d:Disk) (p:Plan) (table i:Int):Ent2×Int:=
 if eRef table i then (⟨0,0⟩,10) else if (plook d p (96+2*table+i / 8)).2≠0 then (⟨0,0⟩,(plook d p (96+2*table+i / 8)).2)
 else entT (((plook d p (96+2*table+i / 8)).1.take (i % 8*8+8).toNat).drop (i % 8*8).toNat)
def eset (d:Disk) (p:Plan) (table i:Int) (x:Ent2):Plan×Int:=
 if eRef table i then (p,10) else if entOk x=false then (p,23) else zcq d p (96+2*table+i / 8) (i % 8*8) (zbg x)
def zbp (p:Plan) (tt:Int) (f:Plan->Int->Txt×Int):Nat->Int->Plan->Plan×Int
 |0,_,q=>(q,0)
 |m+1,i,q=>if (f q i).2≠0 then (p,(f q i).2) else if (pset q (96+2*tt+i) (f q i).1).2≠0 then (p,(pset q (96+2*tt+i) (f q i).1).2)
  else zbp p tt f m (i+1) (pset q (96+2*tt+i) (f q i).1).1
def z64:Txt:=List.replicate 64 0
theorem zvh:bytesOf [[D.int .u8 0],[D.int .u8 0],[D.int .u8 0],[D.int .u8 0],[D.int .u8 0],[D.int .u8 0],[D.int .u8 0],[D.int .u8 0],[D.int .u8 0],[D.int .u8 0],[D.int .u8 0],[D.int .u8 0],[D.int .u8 0],[D.int .u8 0],[D.int .u8 0],[D.int .u8 0],[D.int .u8 0],[D.int .u8 0],[D.int .u8 0],[D.int .u8 0],[D.int .u8 0],[D.int .u8 0],[D.int .u8 0],[D.int .u8 0],[D.int .u8 0],[D.int .u8 0],[D.int .u8 0],[D.int .u8 0],[D.int .u8 0],[D.int .u8 0],[D.int .u8 0],[D.int .u8 0],[D.int .u8 0],[D.int .u8 0],[D.int .u8 0],[D.int .u8 0],[D.int .u8 0],[D.int .u8 0],[D.int .u8 0],[D.int .u8 0],[D.int .u8 0],[D.int .u8 0],[D.int .u8 0],[D.int .u8 0],[D.int .u8 0],[D.int .u8 0],[D.int .u8 0],[D.int .u8 0],[D.int .u8 0],[D.int .u8 0],[D.int .u8 0],[D.int .u8 0],[D.int .u8 0],[D.int .u8 0],[D.int .u8 0],[D.int .u8 0],[D.int .u8 0],[D.int .u8 0],[D.int .u8 0],[D.int .u8 0],[D.int .u8 0],[D.int .u8 0],[D.int .u8 0],[D.int .u8 0]]=z64:=rfl
def eblank (p:Plan) (table:Int):Plan×Int:=if zG table=false then (p,10) else zbp p table (λ_ _=>(z64,0)) 2 0 p
def ecopy (d:Disk) (p:Plan) (fr tt:Int):Plan×Int:=if zG fr=false\/zG tt=false then (p,10) else zbp p tt (λq i=>plook d q (96+2*fr+i)) 2 0 p
def elook (d:Disk) (p:Plan) (l1 guest:Int):Ent2×Int:=
 if guest<0\/64<=guest then (⟨0,0⟩,10) else if (eget d p l1 (guest / 16)).2≠0 then (⟨0,0⟩,(eget d p l1 (guest / 16)).2)
 else if (eget d p l1 (guest / 16)).1.kind=2 then (⟨0,0⟩,14) else if (eget d p l1 (guest / 16)).1.kind=0 then (⟨0,0⟩,0)
 else eget d p (eget d p l1 (guest / 16)).1.loc (guest % 16)
theorem zbm {x:Ent2} (h:entOk x=true):(x.kind=0\/x.kind=1\/x.kind=2)/\0<=x.loc/\x.loc<256:=by
 unfold entOk at h;split at h
 ·rename_i hk;have:=hostOk_iff.1 h;omega
 ·simp only [Bool.and_eq_true,Bool.or_eq_true,beq_iff_eq] at h;omega
theorem zep {d:Disk} {p:Plan} {t i:Int} (h:(eget d p t i).2=0):entOk (eget d p t i).1=true/\zG t=true/\0<=i/\i<16:=by
 unfold eget at h ⊢;split at h
 ·cases h
 rename_i h0;rw [if_neg h0];split at h
 ·rename_i h1;exact absurd h h1
 rename_i h1;rw [if_neg h1];unfold entT at h ⊢;split at h
 ·cases h
 rename_i h2;rw [if_neg h2];simp only [not_or,Bool.not_eq_false] at h2;refine ⟨h2.1,?_⟩;simp only [eRef,Bool.or_eq_true,decide_eq_true_eq,not_or,Bool.not_eq_true',Bool.not_eq_false] at h0;exact ⟨h0.1.1,by omega,by omega⟩
theorem zfu (x:Ent2):(zbg x).length=8:=by rw [zbg,List.length_append,zK];rfl
theorem zvi {d:Disk} {p:Plan} {t i:Int} {x:Ent2} (h:pfit p=true):pfit (eset d p t i x).1=true:=by
 unfold eset;split
 ·exact h
 split
 ·exact h
 ·exact zhj h
theorem zhl {p:Plan} {tt:Int} {f:Plan->Int->Txt×Int} (h:pfit p=true):∀ (m:Nat) (i:Int) (q:Plan),pfit q=true->pfit (zbp p tt f m i q).1=true
 |0,_,_,hq=>hq
 |m+1,i,q,hq=>by
  rw [zbp];split
  ·exact h
  split
  ·exact h
  ·exact zhl h m _ _ (zbU hq)
theorem DP.eset {d:Disk} {p:Plan} (h:DP d p) (t i:Int) (x:Ent2):DP d (eset d p t i x).1:=⟨h.d,zvi h.p⟩
theorem DP.eblank {d:Disk} {p:Plan} (h:DP d p) (t:Int):DP d (eblank p t).1:=⟨h.d,by unfold Aw.eblank;split;exact h.p;exact zhl h.p _ _ _ h.p⟩
theorem DP.ecopy {d:Disk} {p:Plan} (h:DP d p) (a b:Int):DP d (ecopy d p a b).1:=⟨h.d,by unfold Aw.ecopy;split;exact h.p;exact zhl h.p _ _ _ h.p⟩
theorem zlp (k:Int) (_:True):AC 131 [.d (.int .i64 k)] (.d (.bool (zG k))):=by refine bod Tryz.func131 Tryz.ntmps131 (λbase=>?_);refine' zc fx;rfl
@[go_sem] noncomputable def zab:Ent Tryz.prog 131:= .m1 (intT .i64) zlp
theorem zn6 (x:Ent2) (_:True):AC 226 [entA x] (.d (.bool (entOk x))):=by
 refine bod Tryz.func226 Tryz.ntmps226 (λbase=>?_);refine' walkW fx (za zab <| zb _)
 ·have hc:x.kind=1:=by simpa using hc
  rw [entOk,if_pos hc]
 ·have hc:¬x.kind=1:=by simpa using hc
  rw [entOk,if_neg hc]
@[go_sem] noncomputable def zbW:Ent Tryz.prog 226:= .m1 zgN zn6
theorem zlq (t i:Int) (_:True):AC 224 [.d (.int .i64 t),.d (.int .i64 i)] (.d (.bool (eRef t i))):=by refine bod Tryz.func224 Tryz.ntmps224 (λbase=>?_);refine' walkW fx (za zab <| zb _);rfl
@[go_sem] noncomputable def zbn:Ent Tryz.prog 224:= .m2 (intT .i64) (intT .i64) zlq
theorem ziY {t i:Int} (h:eRef t i=false):(0<=t/\t<256)/\0<=i/\i<16:=by simp only [eRef,Bool.or_eq_false_iff,Bool.not_eq_false',decide_eq_false_iff_not] at h;exact ⟨hostOk_iff.1 h.1.1,by omega,by omega⟩
theorem zn7 (t i:Int) (hp:0<=t/\t<256/\0<=i/\i<16):AC 225 [.d (.int .i64 t),.d (.int .i64 i)] (.tup [.d (.int .i64 (96+2*t+i / 8)),.d (.int .i64 (i % 8*8))]):=by
 obtain ⟨h0,h1,h2,h3⟩:=hp;refine bod Tryz.func225 Tryz.ntmps225 (λbase=>?_);have hw1:IntKind.i64.wrap (i.tdiv 8)=i / 8:=by rw [Int.tdiv_eq_ediv_of_nonneg h2,zg (by omega) (by omega)]
 have hw2:IntKind.i64.wrap (96+2*t+i / 8)=96+2*t+i / 8:=zg (by omega) (by omega);have hw3:i.tmod 8=i % 8:=Int.tmod_eq_emod_of_nonneg h2;have hw4:IntKind.i64.wrap (i % 8*8)=i % 8*8:=zg (by omega) (by omega);refine' walkW (zah hw1 hw2 hw3 hw4) (za zcB <| zb _)
@[go_sem] noncomputable def zbX:Ent Tryz.prog 225:= .m2 (intT .i64) (intT .i64) zn7
theorem zn8 (x:Ent2) (h:entOk x=true):AC 227 [entA x] (.d (.str (zbg x))):=by
 refine fbod Tryz.func227 Tryz.ntmps227 (λbase=>?_);obtain ⟨hk,ha0,ha1⟩:=zbm h
 have hw1:IntKind.u8.wrap x.kind=((UInt8.ofNat x.kind.toNat).toNat:Int):=by rw [<-u8_of,show (x.kind.toNat:Int)=x.kind by omega]
 have hw2:IntKind.u64.wrap x.loc=x.loc:=zad (by omega) (by omega);have hl:=zK x.loc.toNat 4;have hbo:bytesOf [[D.int .u8 ((UInt8.ofNat x.kind.toNat).toNat:Int)],[D.int .u8 0],[D.int .u8 0],[D.int .u8 0]]= [UInt8.ofNat x.kind.toNat,0,0,0]:=by rcases hk with hh|hh|hh<;>(rw [hh];rfl)
 refine' walkW (zbj hw1 hw2 @zkn hl hbo) (za zat <| zb _)
 ·rfl
 ·rfl
@[go_sem] noncomputable def zbY:Ent Tryz.prog 227:= .m1 zgN zn8
theorem zsT (s:Txt):0<=(entOf s).kind/\(entOf s).kind<=255/\0<=(entOf s).loc/\(entOf s).loc<=4294967295:=by have h1:=zcg (l:=(s.drop 4).take 4) (i:=4) (by rw [List.length_take];omega);have h2:=(s.getD 0 0).toNat_lt;simp only [entOf];omega
theorem zsU (d:Disk) (p:Plan) (t i:Int) (h:DP d p):AC 169 [diskA d,planA p,.d (.int .i64 t),.d (.int .i64 i)] (.tup [entA (eget d p t i).1,.d (.int .i64 (eget d p t i).2)]):=by
 refine fbod Tryz.func169 Tryz.ntmps169 (λbase=>?_);have h1:=h.dok;have h2:=h.pok;have h3:=h.plen;by_cases hr:eRef t i=true
 ·refine' walkW hr (za zbn <| za zbX <| za zA <| za zV <| za zbW <| za zbY <| za zar <| zb _);rw [eget,if_pos hr]
 have hr:eRef t i=false:=by simpa using hr
 obtain ⟨⟨ht0,ht1⟩,hi0,hi1⟩:=ziY hr;obtain ⟨A,hA⟩:∃A,A=96+2*t+i / 8:=⟨_,rfl⟩
 have hrg0:eget d p t i=if (plook d p A).2≠0 then (⟨0,0⟩,(plook d p A).2) else entT (((plook d p A).1.take (i % 8*8+8).toNat).drop (i % 8*8).toNat):=by rw [eget,if_neg (by rw [hr];exact Bool.false_ne_true),hA]
 by_cases he:(plook d p A).2=0
 ·have hb:((plook d p A).2 !=0)=false:=by simpa using he
  have h64:=zch h he;rw [if_neg (by simpa using he)] at hrg0;have hw:IntKind.i64.wrap (i % 8*8+8)=i % 8*8+8:=zg (by omega) (by omega);obtain ⟨S,hS⟩:∃S,S=((plook d p A).1.take (i % 8*8+8).toNat).drop (i % 8*8).toNat:=⟨_,rfl⟩
  rw [<-hS] at hrg0;have hSl:S.length=8:=by rw [hS,List.length_drop,List.length_take];omega
  have hrr:=zsT S;have htk:List.take S.length S=S:=List.take_length;have ht4:=zdl (s:=S.drop 4) (z:=4) 4 rfl (by omega) (by omega) (by rw [List.length_drop];omega);have hwk:IntKind.i64.wrap (entOf S).kind=(entOf S).kind:=zg (by omega) (by omega);have hwl:IntKind.i64.wrap (entOf S).loc=(entOf S).loc:=zg (by omega) (by omega);simp only [entOf] at hwk hwl hrr;have hL2:(List.drop 4 S).length<=8:=by rw [List.length_drop];omega
  refine' walkW (zL hr hA.symm hb hw hS.symm (zah htk ht4 hwk hwl)) (za zbn <| za zbX <| za zA <| za zV <| za zbW <| za zbY <| za zar <| zb _);all_goals (rw [hrg0,entT];clear ht4 hwk hwl htk;simp_all [entOf];done)
 ·have hb:((plook d p A).2 !=0)=true:=by simpa using he
  rw [if_pos he] at hrg0;refine' walkW (zB hr hA.symm hb) (za zbn <| za zbX <| za zA <| za zV <| za zbW <| za zbY <| za zar <| zb _);rw [hrg0]
@[go_sem] noncomputable def zaY:Ent Tryz.prog 169:= .m4 zu zw (intT .i64) (intT .i64) zsU
theorem zsV (d:Disk) (p:Plan) (t i:Int) (x:Ent2) (h:DP d p):AC 173 [diskA d,planA p,.d (.int .i64 t),.d (.int .i64 i),entA x] (.tup [planA (eset d p t i x).1,.d (.int .i64 (eset d p t i x).2)]):=by
 refine fbod Tryz.func173 Tryz.ntmps173 (λbase=>?_);have h1:=h.dok;have h2:=h.puts;have h3:=h.p;by_cases hr:eRef t i=true
 ·refine' walkW hr (za zbn <| za zbX <| za zA <| za zV <| za zbW <| za zbY <| za zar <| zb _);rw [eset,if_pos hr]
 have hr:eRef t i=false:=by simpa using hr
 obtain ⟨⟨ht0,ht1⟩,hi0,hi1⟩:=ziY hr;by_cases hx:entOk x=true
 ·have hl:=zfu x;refine' walkW (zB hr hx hl) (za zbn <| za zbX <| za zA <| za zV <| za zbW <| za zbY <| za zar <| zb _);rw [eset,if_neg (by rw [hr];exact Bool.false_ne_true),if_neg (by rw [hx];exact λh=>by cases h)]
 ·have hx:entOk x=false:=by simpa using hx
  refine' walkW (zn hr hx) (za zbn <| za zbX <| za zA <| za zV <| za zbW <| za zbY <| za zar <| zb _);rw [eset,if_neg (by rw [hr];exact Bool.false_ne_true),if_pos hx]
@[go_sem] noncomputable def zeY:Ent Tryz.prog 173:= .m5 zu zw (intT .i64) (intT .i64) zgN zsV
theorem zfU (p:Plan) (tt:Int) (f:Plan->Int->Txt×Int) (i:Nat) (q:Plan) (hi:i<2):zbp p tt f (2 - i) i q=if (f q i).2≠0 then (p,(f q i).2) else if (pset q (96+2*tt+i) (f q i).1).2≠0 then (p,(pset q (96+2*tt+i) (f q i).1).2)
  else zbp p tt f (2 - (i+1)) (i+1:Nat) (pset q (96+2*tt+i) (f q i).1).1:=by rw [show 2 - i=(2 - (i+1))+1 by omega,zbp];rfl
theorem PlanOk.of {p:Plan} (h:pfit p=true):PlanOk p:=by obtain ⟨hl,h24,_⟩:=zay h;exact ⟨by omega,by omega⟩
theorem zn9 (p:Plan) (t:Int) (hp:pfit p=true):AC 268 [planA p,.d (.int .i64 t)] (.tup [planA (eblank p t).1,.d (.int .i64 (eblank p t).2)]):=by
 refine fbod Tryz.func268 Tryz.ntmps268 (λbase=>?_);by_cases hk:zG t=true
 ·obtain ⟨ht0,ht1⟩:=hostOk_iff.1 hk;have hbl:eblank p t=zbp p t (λ_ _=>(z64,0)) 2 0 p:=by rw [eblank,if_neg (by rw [hk];exact λh=>by cases h)]
  obtain ⟨f,hf⟩:∃f:Plan->Int->Txt×Int,f=λ_ _=>(z64,0):=⟨_,rfl⟩
  rw [<-hf] at hbl;refine' walkW hk (za zab <| za zcB <| za za2 <| za zA <| zb _);refine zq (λq: { q:Nat×Plan // q.1<=2/\pfit q.2=true/\eblank p t=zbp p t f (2 - q.1) q.1 q.2 } =>⟨[(1,true,.d (.int .i64 t)),(2,true,.vp 0 0),(4,true,.vp 1 0),(6,true,.vp 2 0),(7,true,.d (.int .i64 q.1.1))],[(2,(.var [.d (.sl 1 (q.1.2.targets.map intD)),.d (.sl 1 (q.1.2.texts.map strD))])),(1,.var [.nils 1,.nils 1]),(0,(.var [.d (.sl 1 (p.targets.map intD)),.d (.sl 1 (p.texts.map strD))]))],some []⟩) (λq=>2 - q.1.1) ⟨(0,p),Nat.zero_le 2,hp,hbl⟩ le1 (λq=>?_);obtain ⟨⟨i,q⟩,hi,hq,hf2⟩:=q;simp only at hi hq hf2 ⊢;have hqo:=PlanOk.of hq;obtain ⟨hql,hq24,_⟩:=zay hq;rcases Nat.lt_or_ge i 2 with hlt|hge
  ·have hcmp:decide ((i:Int)<2)=true:=decide_eq_true (by omega);have hwi:=zr (i:=i) (by omega);have hw1:IntKind.i64.wrap (96+2*t+(i:Int))=96+2*t+i:=zg (by omega) (by omega);rw [zfU p t f i q hlt] at hf2;have hf0:f q i=(z64,0):=by rw [hf]
   simp only [hf0] at hf2;rw [if_neg (show ¬(0:Int)≠0 by decide)] at hf2;refine' walkW (zB hcmp hw1 @zvh) (za zab <| za zcB <| za za2 <| za zA <| zb _)
   ·rfl
   ·have hc:(pset q (96+2*t+i) z64).2≠0:=by simpa using hc
    rw [hf2,if_pos hc]
   ·have hc:¬(pset q (96+2*t+i) z64).2≠0:=by simpa using hc
    rw [if_neg hc] at hf2;exact ⟨⟨(i+1,(pset q (96+2*t+i) z64).1),by omega,zbU hq,hf2⟩,lew,by simp;omega⟩
  ·have hcmp:decide ((i:Int)<2)=false:=decide_eq_false (by omega);refine' walkW hcmp (za zab <| za zcB <| za za2 <| za zA <| zb _);rw [hf2,show 2 - i=0 by omega];rfl
 ·have hk:zG t=false:=by simpa using hk
  refine' walkW hk (za zab <| za zcB <| za za2 <| za zA <| zb _);rw [eblank,if_pos hk]
@[go_sem] noncomputable def zgO:Ent Tryz.prog 268:= .m2 zw (intT .i64) zn9
theorem zqN (d:Disk) (p:Plan) (a t:Int) (h:DP d p):AC 49 [diskA d,planA p,.d (.int .i64 a),.d (.int .i64 t)] (.tup [planA (ecopy d p a t).1,.d (.int .i64 (ecopy d p a t).2)]):=by
 refine fbod Tryz.func49 Tryz.ntmps49 (λbase=>?_);have hp:=h.p;have hdo:=h.dok;by_cases hk:zG a=false\/zG t=false
 ·have hdec:(!zG a|| !zG t)=true:=by simpa using hk
  refine' walkW hdec (za zab <| za zcB <| za za2 <| za zA <| zb _);rw [ecopy,if_pos hk]
 ·have hdec:(!zG a|| !zG t)=false:=by simpa using hk
  simp only [not_or,Bool.not_eq_false] at hk;obtain ⟨ha0,ha1⟩:=hostOk_iff.1 hk.1;obtain ⟨ht0,ht1⟩:=hostOk_iff.1 hk.2;have hcp:ecopy d p a t=zbp p t (λq i=>plook d q (96+2*a+i)) 2 0 p:=by rw [ecopy,if_neg];simp [hk]
  obtain ⟨f,hf⟩:∃f:Plan->Int->Txt×Int,f=λq i=>plook d q (96+2*a+i):=⟨_,rfl⟩
  rw [<-hf] at hcp;refine' walkW hdec (za zab <| za zcB <| za za2 <| za zA <| zb _);refine zq (λq: { q:Nat×Plan // q.1<=2/\pfit q.2=true/\ecopy d p a t=zbp p t f (2 - q.1) q.1 q.2 } =>⟨[(2,true,.d (.int .i64 a)),(3,true,.d (.int .i64 t)),(4,true,.vp 0 0),(5,true,.vp 1 0),(8,true,.vp 2 0),(10,true,.vp 3 0),(11,true,.d (.int .i64 q.1.1))],[(3,(.var [.d (.sl 1 (q.1.2.targets.map intD)),.d (.sl 1 (q.1.2.texts.map strD))])),(2,.var [.nils 1,.nils 1]),(1,(.var [.d (.sl 1 (p.targets.map intD)),.d (.sl 1 (p.texts.map strD))])),(0,(.var [.d (.str d.data),.d (.sl 2 (d.cache.map putD)),.d (.int .i64 d.fuse),.d (.bool d.off),.d (.sl 1 (d.bad.map intD))]))],some []⟩) (λq=>2 - q.1.1) ⟨(0,p),Nat.zero_le 2,hp,hcp⟩ le1 (λq=>?_);obtain ⟨⟨i,q⟩,hi,hq,hf2⟩:=q;simp only at hi hq hf2 ⊢;have hqo:=PlanOk.of hq;obtain ⟨hql,hq24,_⟩:=zay hq;rcases Nat.lt_or_ge i 2 with hlt|hge
  ·have hcmp:decide ((i:Int)<2)=true:=decide_eq_true (by omega);have hwi:=zr (i:=i) (by omega);have hw1:IntKind.i64.wrap (96+2*t+(i:Int))=96+2*t+i:=zg (by omega) (by omega);have hw2:IntKind.i64.wrap (96+2*a+(i:Int))=96+2*a+i:=zg (by omega) (by omega);rw [zfU p t f i q hlt] at hf2;have hf0:f q i=plook d q (96+2*a+i):=by rw [hf]
   simp only [hf0] at hf2;refine' walkW (zB hcmp hw1 hw2) (za zab <| za zcB <| za za2 <| za zA <| zb _)
   ·have hc:(plook d q (96+2*a+i)).2≠0:=by simpa using hc
    rw [hf2,if_pos hc]
   ·rename_i c0;have c0:¬(plook d q (96+2*a+i)).2≠0:=by simpa using c0
    have hc:(pset q (96+2*t+i) (plook d q (96+2*a+i)).1).2≠0:=by simpa using hc
    rw [hf2,if_neg c0,if_pos hc]
   ·rename_i c0;have c0:¬(plook d q (96+2*a+i)).2≠0:=by simpa using c0
    have hc:¬(pset q (96+2*t+i) (plook d q (96+2*a+i)).1).2≠0:=by simpa using hc
    rw [if_neg c0,if_neg hc] at hf2;exact ⟨⟨(i+1,(pset q (96+2*t+i) (plook d q (96+2*a+i)).1).1),by omega,zbU hq,hf2⟩,lew,by simp;omega⟩
  ·have hcmp:decide ((i:Int)<2)=false:=decide_eq_false (by omega);refine' walkW hcmp (za zab <| za zcB <| za za2 <| za zA <| zb _);rw [hf2,show 2 - i=0 by omega];rfl
@[go_sem] noncomputable def zbq:Ent Tryz.prog 49:= .m4 zu zw (intT .i64) (intT .i64) zqN
theorem zqO (d:Disk) (p:Plan) (l1 g:Int) (h:DP d p):AC 96 [diskA d,planA p,.d (.int .i64 l1),.d (.int .i64 g)] (.tup [entA (elook d p l1 g).1,.d (.int .i64 (elook d p l1 g).2)]):=by
 refine fbod Tryz.func96 Tryz.ntmps96 (λbase=>?_);by_cases hg:g<0\/64<=g
 ·have hdec:(decide (g<0)||decide (64<=g))=true:=by simpa using hg
  refine' walkW hdec (za zaY <| zb _);rw [elook,if_pos hg]
 ·have hdec:(decide (g<0)||decide (64<=g))=false:=by simpa using hg
  have hw1:IntKind.i64.wrap (g.tdiv 16)=g / 16:=by rw [Int.tdiv_eq_ediv_of_nonneg (by omega),zg (by omega) (by omega)]
  have hw2:g.tmod 16=g % 16:=Int.tmod_eq_emod_of_nonneg (by omega);refine' walkW (zB hdec hw1 hw2) (za zaY <| zb _);all_goals (rw [elook,if_neg hg];simp_all;done)
@[go_sem] noncomputable def zeg:Ent Tryz.prog 96:= .m4 zu zw (intT .i64) (intT .i64) zqO
open Go Go.Proofs
theorem zxj (k:Int) (_:True):AC 187 [.d (.int .i64 k)] (.d (.bool (!zG k))):=by refine bod Tryz.func187 Tryz.ntmps187 (λbase=>?_);refine' zc @zcu
@[go_sem] noncomputable def zde:Ent Tryz.prog 187:= .m1 (intT .i64) zxj
theorem zs9 (x:Ent2) (_:True):AC 250 [entA x] (.d (.bool (entOk x))):=by refine bod Tryz.func250 Tryz.ntmps250 (λbase=>?_);refine' walkW fx (za zde <| za zck <| zb _);all_goals simp_all [entOk]
@[go_sem] noncomputable def zcZ:Ent Tryz.prog 250:= .m1 zgN zs9
theorem zta (t i:Int) (_:True):AC 249 [.d (.int .i64 t),.d (.int .i64 i)] (.tup [.d (.int .i64 (if eRef t i then 0 else 96+2*t+i / 8)),.d (.int .i64 (if eRef t i then 0 else i % 8*8)),.d (.int .i64 (if eRef t i then 10 else 0))]):=by
 refine bod Tryz.func249 Tryz.ntmps249 (λbase=>?_);cases hr:eRef t i with
 |true=>
  have hdec:(!zG t||decide (i<0)||decide (16<=i))=true:=hr;refine' walkW hdec (za zde <| za zck <| zb _)
 |false=>
  have hdec:(!zG t||decide (i<0)||decide (16<=i))=false:=hr;obtain ⟨⟨ht0,ht1⟩,hi0,hi1⟩:=ziY hr;have hw0:IntKind.i64.wrap (i*8)=i*8:=zg (by omega) (by omega);have hw1:IntKind.i64.wrap ((i*8).tdiv 64)=i / 8:=by rw [Int.tdiv_eq_ediv_of_nonneg (by omega),zg (by omega) (by omega)];omega
  have hw2:IntKind.i64.wrap (96+2*t+i / 8)=96+2*t+i / 8:=zg (by omega) (by omega);have hw3:(i*8).tmod 64=i % 8*8:=by rw [Int.tmod_eq_emod_of_nonneg (by omega)];omega
  refine' walkW (zbj hdec hw0 hw1 hw2 hw3) (za zde <| za zck <| zb _)
@[go_sem] noncomputable def zc0:Ent Tryz.prog 249:= .m2 (intT .i64) (intT .i64) zta
theorem zmP:∀k<3,∀l<256,putN (k*72057594037927936+l) 8= [UInt8.ofNat k,0,0,0]++putN l 4:=by decide+kernel
theorem ztb:∀k<3,∀l<256,ibits .or .u64 (ishl .u64 ((k:Nat):Int) 56) ((l:Nat):Int)=((k*72057594037927936+l:Nat):Int):=by decide+kernel
theorem zqY (x:Ent2) (h:entOk x=true):AC 289 [entA x] (.d (.str (zbg x))):=by
 refine fbod Tryz.func289 Tryz.ntmps289 (λbase=>?_);obtain ⟨hk,ha0,ha1⟩:=zbm h;obtain ⟨kind,loc⟩:=x;simp only at hk ha0 ha1;obtain ⟨k,rfl⟩:∃k:Nat,kind=k:=⟨kind.toNat,by omega⟩
 obtain ⟨l,rfl⟩:∃l:Nat,loc=l:=⟨loc.toNat,by omega⟩
 have h1:=zmP k (by omega) l (by omega);have h2:=ztb k (by omega) l (by omega);have hw1:IntKind.u64.wrap (k:Int)=k:=zad (by omega) (by omega);have hw2:IntKind.u64.wrap (l:Int)=l:=zad (by omega) (by omega);refine' walkW (zL hw1 hw2 h2 @zyr natC h1) (za zda <| zb _);rfl
@[go_sem] noncomputable def zcx:Ent Tryz.prog 289:= .m1 zgN zqY
theorem zvr (n:Nat):ishr .u64 (n:Int) 56=((n / 72057594037927936:Nat):Int):=by unfold ishr;rw [show min ((56:Int).toNat) IntKind.u64.bits=56 from rfl];rw [Int.fdiv_eq_ediv_of_nonneg _ (by decide)];norm_cast
theorem zvs (n:Nat) (hn:n<18446744073709551616):ibits .and .u64 (n:Int) 72057594037927935=((n % 72057594037927936:Nat):Int):=by
 show IntKind.u64.wrap (((BitVec.ofInt 64 (n:Int)&&& BitVec.ofInt 64 72057594037927935).toNat:Nat):Int)=_;have h2:BitVec.ofInt 64 72057594037927935=BitVec.ofNat 64 72057594037927935:=by decide
 rw [h2,BitVec.ofInt_natCast,BitVec.toNat_and,BitVec.toNat_ofNat,BitVec.toNat_ofNat];rw [Nat.mod_eq_of_lt (by omega),show 72057594037927935 % 2 ^ 64=2 ^ 56 - 1 by decide,Nat.and_two_pow_sub_one_eq_mod,zad (by omega) (by omega)]
theorem zoo (e f g h:UInt8):putN (takeN [e,f,g,h]) 4= [e,f,g,h]:=by
 simp only [takeN,putN,List.foldl,List.nil_append,List.cons_append];have:=e.toNat_lt;have:=f.toNat_lt;have:=g.toNat_lt;have:=h.toNat_lt
 have key:∀ (n:Nat) (c:UInt8),n % 256=c.toNat->UInt8.ofNat n=c:=λn c hh=>by apply UInt8.toNat_inj.1;rw [UInt8.toNat_ofNat'];simpa using hh
 rw [key _ e (by omega),key _ f (by omega),key _ g (by omega),key _ h (by omega)]
theorem zvt (s:Txt) (hs:s.length=8):entT s=if entOk ⟨((takeN s / 72057594037927936:Nat):Int),((takeN s % 72057594037927936:Nat):Int)⟩=true then (⟨((takeN s / 72057594037927936:Nat):Int),((takeN s % 72057594037927936:Nat):Int)⟩,0) else (⟨0,0⟩,14):=by
 match s,hs with
 | [a,b,c,d,e,f,g,h],_=>
  obtain ⟨L,hL⟩:∃L,L=takeN [e,f,g,h]:=⟨_,rfl⟩
  have hL4:L<4294967296:=by
   have h1:=zcg (l:= [e,f,g,h]) (i:=4) (by simp)
   have h2:256 ^ 4=4294967296:=by decide
   omega
  have hpt:putN L 4= [e,f,g,h]:=by rw [hL];exact zoo e f g h
  have ha:=a.toNat_lt;have hb:=b.toNat_lt;have hc:=c.toNat_lt;have hd:=d.toNat_lt
  have hn:takeN [a,b,c,d,e,f,g,h]=((a.toNat*256+b.toNat)*256+c.toNat)*256*4294967296+d.toNat*4294967296+L:=by
   rw [hL]
   simp only [takeN,List.foldl]
   omega
  rw [hn]
  have h1:(((a.toNat*256+b.toNat)*256+c.toNat)*256*4294967296+d.toNat*4294967296+L) / 72057594037927936=a.toNat:=by omega
  have h2:(((a.toNat*256+b.toNat)*256+c.toNat)*256*4294967296+d.toNat*4294967296+L) % 72057594037927936=(b.toNat*256+c.toNat)*256*4294967296+d.toNat*4294967296+L:=by omega
  rw [h1,h2]
  have he:entOf [a,b,c,d,e,f,g,h]=⟨(a.toNat:Int),(L:Int)⟩:=by rw [hL];rfl
  have hby:zbg ⟨(a.toNat:Int),(L:Int)⟩= [a,0,0,0,e,f,g,h]:=by
   rw [zbg]
   simp only [Int.toNat_natCast,hpt]
   rw [show UInt8.ofNat a.toNat=a by simp]
   rfl
  rw [entT,he,hby]
  by_cases hz:b=0∧c=0∧d=0
  ·obtain ⟨rfl,rfl,rfl⟩:=hz
   simp only [UInt8.toNat_zero,Nat.zero_mul,Nat.zero_add]
   cases hk:entOk ⟨(a.toNat:Int),(L:Int)⟩<;>simp
  ·have hne:([a,0,0,0,e,f,g,h]:Txt)≠ [a,b,c,d,e,f,g,h]:=by
    intro hh
    simp only [List.cons.injEq,true_and] at hh
    exact hz ⟨hh.1.symm,hh.2.1.symm,hh.2.2.1.symm⟩
   rw [if_pos (.inr hne),if_neg]
   intro hk
   obtain ⟨_,_,hlt⟩:=zbm hk
   simp only at hlt
   apply hz
   have hb0:b.toNat=0∧c.toNat=0∧d.toNat=0:=by omega
   exact ⟨UInt8.toNat_inj.1 hb0.1,UInt8.toNat_inj.1 hb0.2.1,UInt8.toNat_inj.1 hb0.2.2⟩
open Go Go.Proofs
theorem zxk (d:Disk) (p:Plan) (t i:Int) (h:DP d p):AC 204 [diskA d,planA p,.d (.int .i64 t),.d (.int .i64 i)] (.tup [entA (eget d p t i).1,.d (.int .i64 (eget d p t i).2)]):=by
 refine fbod Tryz.func204 Tryz.ntmps204 (λbase=>?_);have h1:=h.dok;have h2:=h.pok;have h3:=h.plen;by_cases hr:eRef t i=true
 ·refine' walkW (zn hr @if_true.{1}) (za zc0 <| za z2 <| za zcc <| za zcZ <| za zcx <| za zaJ <| zb _);rw [eget,if_pos hr]
 have hr:eRef t i=false:=by simpa using hr
 have hif:∀ (a b:Int),(if eRef t i=true then a else b)=b:=λa b=>by rw [if_neg (by rw [hr];exact Bool.false_ne_true)]
 obtain ⟨⟨ht0,ht1⟩,hi0,hi1⟩:=ziY hr;obtain ⟨A,hA⟩:∃A,A=96+2*t+i / 8:=⟨_,rfl⟩
 have hrg0:eget d p t i=if (plook d p A).2≠0 then (⟨0,0⟩,(plook d p A).2) else entT (((plook d p A).1.take (i % 8*8+8).toNat).drop (i % 8*8).toNat):=by rw [eget,if_neg (by rw [hr];exact Bool.false_ne_true),hA]
 by_cases he:(plook d p A).2=0
 ·have hb:((plook d p A).2 !=0)=false:=by simpa using he
  have h64:=zch h he;rw [if_neg (by simpa using he)] at hrg0;obtain ⟨S,hS⟩:∃S,S=((plook d p A).1.drop (i % 8*8).toNat).take 8:=⟨_,rfl⟩
  have hS2:((plook d p A).1.take (i % 8*8+8).toNat).drop (i % 8*8).toNat=S:=by rw [List.drop_take,hS,show (i % 8*8+8).toNat - (i % 8*8).toNat=8 by omega]
  rw [hS2] at hrg0;have hSl:S.length=8:=by rw [hS,List.length_take,List.length_drop];omega
  rw [zvt S hSl] at hrg0;have hnl:=zcg (l:=S) (i:=8) (by omega);have ht8:=zdl (s:=(plook d p A).1.drop (i % 8*8).toNat) (z:=8) 8 rfl (by omega) (by omega) (by rw [List.length_drop];omega);rw [<-hS] at ht8;obtain ⟨n,hn⟩:∃n,n=takeN S:=⟨_,rfl⟩
  rw [<-hn] at ht8 hrg0 hnl;have hsh:=zvr n;have had:=zvs n (by omega);have hw1:IntKind.i64.wrap ((n / 72057594037927936:Nat):Int)=((n / 72057594037927936:Nat):Int):=zg (by omega) (by omega);have hw2:IntKind.i64.wrap ((n % 72057594037927936:Nat):Int)=((n % 72057594037927936:Nat):Int):=zg (by omega) (by omega);have hld:((plook d p A).1.drop (i % 8*8).toNat).length<=64:=by rw [List.length_drop];omega
  have htk:List.take (plook d p A).1.length (plook d p A).1=(plook d p A).1:=List.take_length;obtain ⟨x,hx⟩:∃x:Ent2,x=⟨((n / 72057594037927936:Nat):Int),((n % 72057594037927936:Nat):Int)⟩:=⟨_,rfl⟩
  rw [<-hx] at hrg0;have hx1:((n / 72057594037927936:Nat):Int)=x.kind:=by rw [hx]
  have hx2:((n % 72057594037927936:Nat):Int)=x.loc:=by rw [hx]
  rw [hx1] at hw1 hsh;rw [hx2] at hw2 had;refine' walkW (zL hif hA.symm hb ht8 htk (zah hsh had hw1 hw2)) (za zc0 <| za z2 <| za zcc <| za zcZ <| za zcx <| za zaJ <| zb _);all_goals (rw [hrg0];simp_all;done)
 ·have hb:((plook d p A).2 !=0)=true:=by simpa using he
  rw [if_pos he] at hrg0;refine' walkW (zB hif hA.symm hb) (za zc0 <| za z2 <| za zcc <| za zcZ <| za zcx <| za zaJ <| zb _);rw [hrg0]
@[go_sem] noncomputable def zce:Ent Tryz.prog 204:= .m4 zu zw (intT .i64) (intT .i64) zxk
theorem zxl (d:Disk) (p:Plan) (t i:Int) (x:Ent2) (h:DP d p):AC 265 [diskA d,planA p,.d (.int .i64 t),.d (.int .i64 i),entA x] (.tup [planA (eset d p t i x).1,.d (.int .i64 (eset d p t i x).2)]):=by
 refine fbod Tryz.func265 Tryz.ntmps265 (λbase=>?_);have h1:=h.dok;have h2:=h.puts;have h3:=h.p;by_cases hr:eRef t i=true
 ·refine' walkW (zn hr @if_true.{1}) (za zc0 <| za z2 <| za zcc <| za zcZ <| za zcx <| za zaJ <| zb _);rw [eset,if_pos hr]
 have hr:eRef t i=false:=by simpa using hr
 have hif:∀ (a b:Int),(if eRef t i=true then a else b)=b:=λa b=>by rw [if_neg (by rw [hr];exact Bool.false_ne_true)]
 obtain ⟨⟨ht0,ht1⟩,hi0,hi1⟩:=ziY hr;by_cases hx:entOk x=true
 ·have hl:=zfu x;refine' walkW (zB hif hx hl) (za zc0 <| za z2 <| za zcc <| za zcZ <| za zcx <| za zaJ <| zb _);rw [eset,if_neg (by rw [hr];exact Bool.false_ne_true),if_neg (by rw [hx];exact λh=>by cases h)]
 ·have hx:entOk x=false:=by simpa using hx
  refine' walkW (zn hif hx) (za zc0 <| za z2 <| za zcc <| za zcZ <| za zcx <| za zaJ <| zb _);rw [eset,if_neg (by rw [hr];exact Bool.false_ne_true),if_pos hx]
@[go_sem] noncomputable def zdf:Ent Tryz.prog 265:= .m5 zu zw (intT .i64) (intT .i64) zgN zxl
theorem zvu (d:Disk) (p:Plan) (l1 g:Int) (h:DP d p):AC 145 [diskA d,planA p,.d (.int .i64 l1),.d (.int .i64 g)] (.tup [entA (elook d p l1 g).1,.d (.int .i64 (elook d p l1 g).2)]):=by
 refine fbod Tryz.func145 Tryz.ntmps145 (λbase=>?_);by_cases hg:g<0\/64<=g
 ·have hdec:(decide (g<0)||decide (64<=g))=true:=by simpa using hg
  refine' walkW hdec (za zce <| zb _);rw [elook,if_pos hg]
 ·have hdec:(decide (g<0)||decide (64<=g))=false:=by simpa using hg
  have hw1:IntKind.i64.wrap (g.tdiv 16)=g / 16:=by rw [Int.tdiv_eq_ediv_of_nonneg (by omega),zg (by omega) (by omega)]
  have hw2:g.tmod 16=g % 16:=Int.tmod_eq_emod_of_nonneg (by omega);refine' walkW (zB hdec hw1 hw2) (za zce <| zb _);all_goals (rw [elook,if_neg hg];by_cases e1:(eget d p l1 (g / 16)).2=0<;>by_cases e2:(eget d p l1 (g / 16)).1.kind=2<;>by_cases e3:(eget d p l1 (g / 16)).1.kind=0<;>simp_all;done)
@[go_sem] noncomputable def zF:Ent Tryz.prog 145:= .m4 zu zw (intT .i64) (intT .i64) zvu
end Go.Aw
