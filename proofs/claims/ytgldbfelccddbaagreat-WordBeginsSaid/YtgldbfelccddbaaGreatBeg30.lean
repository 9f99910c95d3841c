/-
 Answers as bytes; what is asked for, read: the program's.
-/
import Derived.Test.YtgldbfelccddbaaGreatBeg27
set_option maxRecDepth 100000
set_option maxHeartbeats 2000000
set_option linter.unusedSimpArgs false
set_option linter.unusedVariables false
namespace Go.Aw
open Go Go.Proofs
theorem zmU (n:Int) (hp:0≤n∧n≤4294967295):AC 354 [.d (.int .u32 n)] (.d (.str (putS8 n 4))):=by
 obtain ⟨h0,h1⟩:=hp
 refine fbod Tryz.func354 Tryz.ntmps354 (fun base=>?_)
 have hw:IntKind.u64.wrap n=n:=zaR (by omega) (by omega)
 refine' walkW hw (zb zR <| za _)
@[go_sem] noncomputable def zcS:Ent Tryz.prog 354:= .m1 (intT .u32) zmU
theorem zop (n:Int) (hp:0≤n∧n≤4294967295):AC 349 [.d (.int .i64 n)] (.d (.str (putS8 n 4))):=by
 obtain ⟨h0,h1⟩:=hp
 refine fbod Tryz.func349 Tryz.ntmps349 (fun base=>?_)
 have hw:IntKind.u64.wrap n=n:=zaR (by omega) (by omega)
 have hw2:IntKind.u32.wrap n=n:=zcq (by omega) (by omega)
 refine' walkW (zu hw hw2) (zb zR <| za _)
@[go_sem] noncomputable def zkR:Ent Tryz.prog 349:= .m1 (intT .i64) zop
theorem zcT (n:Int):(putS8 n 4).length=4:=by rw [zoR,zaQ]
theorem zoq (s:Txt) (hs:s.length≤4294967295):AC 297 [.d (.str s)] (.d (.str (zca s))):=by
 refine fbod Tryz.func297 Tryz.ntmps297 (fun base=>?_)
 have hl:=zcT s.length
 refine' walkW fx (zb zkR <| za _)
 all_goals rfl
@[go_sem] noncomputable def zaM:Ent Tryz.prog 297:= .m1 strT zoq
def frmB (l:List Int):Txt:=l.flatMap fun n=>putS8 n 4
def zce (hd data:Txt) (l:List Int):Txt×Int:=if 4096<data.length then ([],11) else (hd++frmB l++zca data,0)
theorem zjY:∀l:List Int,(frmB l).length=4*l.length
 | []=>rfl
 |n::l=>by
  have:=zjY l
  unfold frmB at this ⊢
  rw [List.flatMap_cons,List.length_append,zcT,this,List.length_cons]
  omega
theorem zmV (hd data:Txt) (l:List Int) (hh:hd.length≤100) (hl:l.length≤10) (hn:∀n∈l,0≤n∧n≤4294967295):ACall Tryz.prog 302 0 [.d (.str hd),.d (.str data),.d (.sl 1 (l.map u32D))] [] (fun r _=>r= .tup [.d (.str (zce hd data l).1),.d (.int .i64 (zce hd data l).2)]):=by
 refine fbod Tryz.func302 Tryz.ntmps302 (fun base=>?_)
 cases hs:decide ((4096:Int)<(data.length:Int)) with
 |true=>
  have hs2:4096<data.length:=by have:=of_decide_eq_true hs;omega
  refine' zc hs
  rw [zce,if_pos hs2]
 | false=>
  have hs2:¬4096<data.length:=by have:=of_decide_eq_false hs;omega
  refine' zar (zP 4) hs
  refine zeN 0 1 rfl rfl ?_
  simp only [go_sem,aeq,aeq.aeqF,simprocAttr]
  refine' zc fx
  refine (zbn (i:=0) (j:=1) (o:=0) (T:=180) (cs:= [.d .nilp,.bsl 1 0]) (xs:= []) rfl (.inl rfl) rfl rfl rfl zdH (by simp;omega)).mono ?_
  rintro r h' ⟨rfl,rfl⟩
  simp only [go_sem,aeq,aeq.aeqF,simprocAttr]
  refine' zc fx
  refine zt (fun q: { i:Nat // i≤l.length } =>⟨[(0,true,.d (.str hd)),(1,true,.d (.str data)),(8,true,.tp 0 0),(16,true,.d (.sl 1 (l.map u32D))),(17,true,.d (.int .i64 l.length)),(18,true,.d (.int .i64 q.1))],[(1,.buf 5 (hd++frmB (l.take q.1))),(0,.tvar 180 [.tp 0 0,.bsl 1 (hd.length+(frmB (l.take q.1)).length)])],some []⟩) (fun q=>l.length - q.1) ⟨0,Nat.zero_le _⟩ (by simp only [AS.le,leT,leH,zh,AsgK,AV.le,AV.leL,AObj.le,inH,idsT,idsH,AV.ids,AV.idsL,AV.idsR,AObj.ids,lk,hget,go_sem,aeq,aeq.aeqF,simprocAttr,List.take_zero,frmB,List.flatMap_nil,Nat.add_zero]<;>and_intros<;>rfl) (fun q=>?_)
  obtain ⟨i,hi⟩:=q
  simp only at hi ⊢
  have hfl:=zjY (l.take i)
  rw [List.length_take] at hfl
  rcases zaw u32D l i hi with ⟨m,hq,hlt,hcmp,hrow,hdr,htk⟩|⟨hend,hcmp⟩
  ·simp only [u32D] at hrow
   have hwi:=zp (i:=i) (by omega)
   have hm:=hn m (List.mem_of_getElem? hq)
   have hsn:frmB (l.take (i+1))=frmB (l.take i)++putS8 m 4:=by rw [htk];simp [frmB]
   refine' walkW (z7 hcmp hrow hm.1 hm.2) (zb zcS <| zb zaM <| za _)
   refine (zbn (i:=0) (j:=1) (o:=0) (T:=180) (cs:= [.tp 0 0,.bsl 1 (hd.length+(frmB (l.take i)).length)]) (xs:=hd++frmB (l.take i)) rfl (.inr rfl) rfl rfl (by simp) zdH (by rw [zcT,List.length_append];omega)).mono ?_
   rintro r h' ⟨rfl,rfl⟩
   refine' zc fx
   exact ⟨⟨i+1,by omega⟩,by simp only [AS.le,leT,leH,zh,AsgK,AV.le,AV.leL,AObj.le,inH,idsT,idsH,AV.ids,AV.idsL,AV.idsR,AObj.ids,lk,hget,go_sem,aeq,aeq.aeqF,simprocAttr,hwi,hsn,List.length_append,List.append_assoc,Nat.add_assoc],by simp;omega⟩
  ·subst hend
   simp only [List.take_length] at hfl ⊢
   have hob:(zca data).length=4+data.length:=by rw [zca,List.length_append,zcT]
   refine' walkW hcmp (zb zcS <| zb zaM <| za _)
   refine (zeM (i:=0) (j:=1) (o:=0) (T:=180) (cs:= [.tp 0 0,.bsl 1 (hd.length+(frmB l).length)]) (xs:=hd++frmB l) rfl rfl rfl (by simp) (by rw [List.length_append];omega)).mono ?_
   rintro r h' ⟨rfl,rfl⟩
   simp only [go_sem,aeq,aeq.aeqF,simprocAttr,hset]
   refine' walkW fx (zb zcS <| zb zaM <| za _)
   all_goals first|(rw [List.length_append];omega)|rw [zce,if_neg hs2]
theorem zkS (o k:Int) (data:Txt):(zce ansHd data [o,k]).1=sayS o k data:=by
 unfold zce sayS
 split
 ·rfl
 ·simp [frmB,zca]
theorem zmW (o k:Int) (data:Txt) (h0:0≤o) (h1:o≤4294967295) (h2:0≤k) (h3:k≤4294967295):ACall Tryz.prog 244 0 [.agg [.d (.int .u32 o),.d (.int .u32 k),.d (.str data)]] [] (fun r _=>r= .tup [.d (.str (sayS o k data)),.d (.int .i64 (zce ansHd data [o,k]).2)]):=by
 refine fbod Tryz.func244 Tryz.ntmps244 (fun base=>?_)
 refine' zar (zP 1) fx
 refine zbv noTab (za _) 7 1 (fun K hK=>?_)
 simp only [go_sem,aeq,aeq.aeqF,simprocAttr]
 refine ⟨_,rfl,?_⟩
 simp only [go_sem,aeq,aeq.aeqF,simprocAttr]
 refine (zbo (zmV ansHd data [o,k] (by decide) (by simp) (by simp;omega))).mono ?_
 rintro r h' ⟨rfl,rfl⟩
 simp only [go_sem,aeq,aeq.aeqF,simprocAttr]
 refine' zc fx
 rw [zkS]
@[go_sem] noncomputable def zeY:Ent Tryz.prog 244:= .ofL (consL (aggT (consL (intT .u32) (consL (intT .u32) (consL strT nilL))) (fun p=>p) (fun p=>p) (fun _=>rfl)) nilL) (fun ((o,k,data,_),_)=>(0≤o)∧(o≤4294967295)∧(0≤k)∧(k≤4294967295)) (fun ((o,k,data,_),_)=> .tup [.d (.str (sayS o k data)),.d (.int .i64 (zce ansHd data [o,k]).2)]) (fun ((o,k,data,_),_) hp=>⟨rfl,zmW o k data hp.1 hp.2.1 hp.2.2.1 hp.2.2.2⟩)
theorem ziW (size:Int) (names:List Txt) (hl:names.length≤1000000) (hn:∀s∈names,s.length≤1000000):ACall Tryz.prog 300 0 [.agg [.d (.int .u64 size),.d (.sl 1 (names.map strD))]] [] (fun r _=>r= .d (.sl 1 ((ctxs names).map strD))):=by
 refine fbod Tryz.func300 Tryz.ntmps300 (fun base=>?_)
 refine' zc fx
 refine zt (fun q: { i:Nat // i≤names.length } =>⟨[(3,true,.osl 1 1 (q.1+1) 0 (q.1+1)),(8,true,.d (.sl 1 (names.map strD))),(9,true,.d (.int .i64 names.length)),(10,true,.d (.int .i64 q.1))],[(1,.arr 1 ((ctxs (names.take q.1)).map strD)),(0,.var [.d (.int .u64 size),.d (.sl 1 (names.map strD))])],some []⟩) (fun q=>names.length - q.1) ⟨0,Nat.zero_le _⟩ le1 (fun q=>?_)
 obtain ⟨i,hi⟩:=q
 simp only at hi ⊢
 have hcl:((ctxs (names.take i)).map strD).length=i+1:=by simp [ctxs];omega
 rcases zaw strD names i hi with ⟨m,hq,hlt,hcmp,hrow,hdr,htk⟩|⟨hend,hcmp⟩
 ·simp only [strD] at hrow
  have hwi:=zp (i:=i) (by omega)
  have hm:=hn m (List.mem_of_getElem? hq)
  have hsn:(ctxs (names.take (i+1))).map strD=(ctxs (names.take i)).map strD++ [[.str (zjy++m)]]:=by rw [htk];simp [ctxs,strD]
  refine' zc (zF hcmp hrow hcl)
  exact ⟨⟨i+1,by omega⟩,by simp only [AS.le,leT,leH,zh,AsgK,AV.le,AV.leL,AObj.le,inH,idsT,idsH,AV.ids,AV.idsL,AV.idsR,AObj.ids,lk,hget,go_sem,aeq,aeq.aeqF,simprocAttr,hwi,hsn,zjy],by simp;omega⟩
 ·subst hend
  simp only [List.take_length] at hcl ⊢
  refine' zc (zu hcmp hcl)
  rw [List.take_of_length_le (Nat.le_of_eq hcl)]
@[go_sem] noncomputable def zS:Ent Tryz.prog 300:= .ofL (consL (aggT (consL (intT .u64) (consL (slT 1 strD zcp) nilL)) (fun p=>p) (fun p=>p) (fun _=>rfl)) nilL) (fun ((size,names,_),_)=>(names.length≤1000000)∧(∀s∈names,s.length≤1000000)) (fun ((size,names,_),_)=> .d (.sl 1 ((ctxs names).map strD))) (fun ((size,names,_),_) hp=>⟨rfl,ziW size names hp.1 hp.2⟩)
theorem zeZ (s:Txt):(toBeg s).2.1.length≤s.length:=by
 unfold toBeg
 split
 ·exact Nat.zero_le _
 split
 ·exact Nat.zero_le _
 ·simp only [List.length_drop];omega
theorem zmX (s:Txt) (hs:s.length≤1000000):AC 299 [.d (.str s)] (.tup [.d (.str (zaY s).1),.d (.sl 1 ((zaY s).2.1.map strD)),.d (.int .i64 (zaY s).2.2)]):=by
 refine fbod Tryz.func299 Tryz.ntmps299 (fun base=>?_)
 obtain ⟨T,hT⟩:∃T,T=zaY s:=⟨_,rfl⟩
 rw [← hT]
 obtain ⟨B,hB⟩:∃B,B=toBeg s:=⟨_,rfl⟩
 rw [zaY,← hB] at hT
 have hBl:B.2.1.length≤1000000:=by rw [hB];exact Nat.le_trans (zeZ s) hs
 have hZk:takeS B.2.1 4=if B.2.1.length<4 then (0,[],22) else (((numAt B.2.1 0 4:Nat):Int),B.2.1.drop 4,0):=by
  rw [takeS,if_neg (by decide)]
  by_cases h4:B.2.1.length<4
  ·rw [if_pos h4,if_pos (by omega)]
  ·rw [if_neg h4,if_neg (by omega)];rfl
 obtain ⟨Z,hZe⟩:∃Z,Z=takeS B.2.1 4:=⟨_,rfl⟩
 rw [← hZe] at hZk
 refine' walkW (zu hB.symm hZe.symm) (zb zcs <| zb zab <| za _)
 ·rw [if_pos] at hT
  ·rw [hT];rfl
  ·rw [hZk] at hc
   by_cases h4:B.2.1.length<4
   ·exact .inr (.inl h4)
   ·rw [if_neg h4] at hc
    simp only [Bool.or_eq_true,bne_iff_ne,decide_eq_true_eq] at hc
    omega
 simp only [Bool.or_eq_false_iff,bne_eq_false_iff_eq,decide_eq_false_iff_not] at hc
 obtain ⟨⟨hc1,hc2⟩,hc3⟩:=hc
 have h4:¬B.2.1.length<4:=fun h4=>by rw [hZk,if_pos h4] at hc2;cases hc2
 rw [if_neg h4] at hZk
 obtain ⟨n,hn⟩:∃n,n=numAt B.2.1 0 4:=⟨_,rfl⟩
 rw [← hn] at hZk hT
 subst hZk
 simp only at hc3 ⊢
 have hn1:n≤1000:=by omega
 rw [if_neg (by omega)] at hT
 refine zge 9 1 rfl ?_
 simp only [go_sem,aeq,aeq.aeqF,simprocAttr]
 refine zt (fun q: { q:Nat×List Txt×Txt // q.1≤n∧q.2.1.length=q.1∧q.2.2.length≤1000000∧zdZ n [] (B.2.1.drop 4)=zdZ (n - q.1) q.2.1 q.2.2 } =>⟨[(0,true,.d (.str q.1.2.2)),(5,true,.d (.str B.1)),(9,true,.osl 0 1 q.1.1 0 q.1.1),(33,true,.d (.int .u64 n)),(34,true,.d (.int .u64 q.1.1))],[(0,.arr 1 (q.1.2.1.map strD))],some []⟩) (fun q=>n - q.1.1) ⟨(0,[],B.2.1.drop 4),Nat.zero_le _,rfl,by simp only [List.length_drop];omega,rfl⟩ le1 (fun q=>?_)
 obtain ⟨⟨i,l,r⟩,hi,hl,hr,hg⟩:=q
 simp only at hi hl hr hg ⊢
 have hll:(l.map strD).length=i:=by rw [List.length_map,hl]
 have hw:IntKind.u64.wrap ((i:Int)+1)=((i+1:Nat):Int):=by rw [zaR (by omega) (by omega)];omega
 rcases Nat.lt_or_ge i n with hlt|hge
 ·have hcmp:decide ((i:Int)<(n:Int))=true:=decide_eq_true (by omega)
  obtain ⟨D',hD⟩:∃D,D=toBeg r:=⟨_,rfl⟩
  have hDl:D'.2.1.length≤1000000:=by rw [hD];exact Nat.le_trans (zeZ r) hr
  have hgo:zdZ (n - i) l r=if D'.2.2≠0 then none else zdZ (n - (i+1)) (l++ [D'.1]) D'.2.1:=by
   rw [show n - i=(n - (i+1))+1 by omega,zdZ,← hD]
  rw [hgo] at hg
  refine' walkW (zF hcmp hD.symm hll) (zb zcs <| zb zab <| za _)
  ·rw [hg,if_pos (by simpa using hc)] at hT
   rw [hT];rfl
  ·rw [if_neg (by simpa using hc)] at hg
   exact ⟨⟨(i+1,l++ [D'.1],D'.2.1),by omega,by simp [hl],hDl,hg⟩,by simp only [AS.le,leT,leH,zh,AsgK,AV.le,AV.leL,AObj.le,inH,idsT,idsH,AV.ids,AV.idsL,AV.idsR,AObj.ids,lk,hget,go_sem,aeq,aeq.aeqF,simprocAttr,hw,List.map_append,strD],by simp;omega⟩
 ·have hcmp:decide ((i:Int)<(n:Int))=false:=decide_eq_false (by omega)
  obtain rfl:i=n:=by omega
  rw [Nat.sub_self,zdZ] at hg
  rw [hg] at hT
  simp only at hT
  refine' walkW (zu hcmp hll) (zb zcs <| zb zab <| za _)
  ·rw [if_pos (by simpa using hc)] at hT
   rw [hT];rfl
  ·rw [if_neg (by simpa using hc)] at hT
   rw [hT,List.take_of_length_le (Nat.le_of_eq hll)]
@[go_sem] noncomputable def zah:Ent Tryz.prog 299:= .m1 strT zmX
end Go.Aw
