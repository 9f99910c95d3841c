/-
 Replies as bytes, the program's.
-/
import Derived.Test.YtgkjmbopnaeanaaGreatPart33
import Derived.Test.YtgkjmbopnaeanaaGreatPart34
set_option maxRecDepth 100000
set_option maxHeartbeats 2000000
set_option linter.unusedSimpArgs false
set_option linter.unusedVariables false
namespace Go.Aw
open Go Go.Proofs
theorem zbJ {P:Program} {f:FuncId} {fl:Nat} {args:List AV} {r:AV} {h:AHeap} (hc:ACall P f 0 args [] (fun r' _=>r'=r)) (hz:args.map (frz 9 h)=args:=by rfl) (hids:AV.idsL args= []:=by first|rfl|simp [AV.idsL,AV.ids,AV.idsR]) (hri:r.ids= []:=by rfl):ACallAt P fl f args h (fun r' h'=>r'=r∧h'=h):=ACall.data (n:=9) (by rw [hz];exact hc) hids hri
inductive Anyv where
 |u16 (n:Int)
 |u32 (n:Int)
 |u64 (n:Int)
 |str (s:Txt)
def anvR:Anyv→List AV
 | .u16 n=> [.iface 148 (.d (.int .u16 n))]
 | .u32 n=> [.iface 34 (.d (.int .u32 n))]
 | .u64 n=> [.iface 28 (.d (.int .u64 n))]
 | .str s=> [.iface 9 (.d (.str s))]
def anvB:Anyv→Txt
 | .u16 n=>putN n.toNat 2
 | .u32 n=>putN n.toNat 4
 | .u64 n=>putN n.toNat 8
 | .str s=>s
def anvOk:Anyv→Prop
 | .u16 n=>0≤n∧n<65536
 | .u32 n=>0≤n∧n<4294967296
 | .u64 n=>0≤n∧n<18446744073709551616
 | .str s=>s.length≤2000000
def anvsB (l:List Anyv):Txt:=l.flatMap anvB
@[simp, go_sem] theorem zxG:anvsB []= []:=rfl
@[go_sem] theorem zvc:∀l:List Anyv,AV.idsR (l.map anvR)= []
 | []=>rfl
 |v::l=>by
  rw [List.map_cons,AV.idsR,zvc l]
  cases v<;>rfl
theorem zqP (l:List Anyv) (v:Anyv):anvsB (l++ [v])=anvsB l++anvB v:=by simp [anvsB]
theorem zmm:∀ {l:List Anyv},(∀v∈l,anvOk v)→(anvsB l).length≤2000000*l.length
 | [],_=>Nat.zero_le _
 | v::l,h=>by
  have h1:=zmm (l:=l) (fun y hy=>h y (List.mem_cons_of_mem _ hy))
  have h2:=h v List.mem_cons_self
  have h3:(anvB v).length≤2000000:=by
   cases v<;>simp only [anvB,zu,anvOk] at h2 ⊢ <;>omega
  simp only [anvsB,List.flatMap_cons,List.length_append,List.length_cons] at h1 ⊢
  omega
theorem zeP (l:List Anyv) (h:∀v∈l,anvOk v) (hl:l.length≤10):ACall Tryz.prog 77 0 [.asl 1 (l.map anvR)] [] (fun r _=>r= .d (.str (anvsB l))):=by
 refine fbod Tryz.func77 Tryz.ntmps77 (fun base=>?_)
 have hlm:(l.map anvR).length=l.length:=List.length_map _
 refine' walkW hlm (za zbH <| zb _)
 refine zgs 0 1 rfl rfl ?_
 simp only [go_sem,aeq,aeq.aeqF,simprocAttr]
 refine zo (fun q: { i:Nat // i≤l.length } =>⟨[(3,true,.tp 0 0),(10,true,.asl 1 (l.map anvR)),(11,true,.d (.int .i64 l.length)),(12,true,.d (.int .i64 q.1))],[(1,.buf 5 (anvsB (l.take q.1))),(0,.tvar 85 [if q.1=0 then .d .nilp else .tp 0 0,.bsl 1 (anvsB (l.take q.1)).length])],some []⟩) (fun q=>l.length - q.1) ⟨0,Nat.zero_le _⟩ (by simp only [AS.le,leT,leH,zf,AsgK,AV.le,AV.leL,AObj.le,inH,idsT,idsH,AV.ids,AV.idsL,AV.idsR,AObj.ids,lk,hget,go_sem,aeq,aeq.aeqF,simprocAttr,if_true,List.take_zero]<;>and_intros<;>rfl) (fun q=>?_)
 obtain ⟨i,hi⟩:=q
 simp only at hi ⊢
 obtain ⟨b,hb⟩:∃b,b=anvsB (l.take i):=⟨_,rfl⟩
 have hbl:b.length≤20000000:=by
  have:=zmm (l:=l.take i) (fun v hv=>h v (List.mem_of_mem_take hv))
  rw [List.length_take] at this
  rw [hb]
  omega
 rw [← hb]
 rcases Nat.lt_or_ge i l.length with hlt|hge
 ·obtain ⟨v,hv⟩:=zai hlt
  have hrow:=za1 (g:=anvR) hv
  have hcmp:decide ((i:Int)<(l.length:Int))=true:=decide_eq_true (by omega)
  have hwi:=zn (i:=i) (by omega)
  have hvo:=h v (List.mem_of_getElem? hv)
  have hsn:anvsB (l.take (i+1))=b++anvB v:=by rw [zcz hv,zqP,hb]
  have hif:(if i+1=0 then AV.d .nilp else AV.tp 0 0)= .tp 0 0:=if_neg (by omega)
  have hgo:∀t:Txt,t=anvB v→∃q': { i:Nat // i≤l.length },q'.1=i+1∧anvsB (l.take q'.1)=b++t:=by
   rintro t rfl
   exact ⟨⟨i+1,by omega⟩,rfl,hsn⟩
  cases v with
  |u16 n=>
   simp only [anvR,anvOk,anvB] at hrow hvo hsn
   have hw:IntKind.u64.wrap n=n:=zT (by omega) (by omega)
   have hpn:=zu n.toNat 2
   refine' walkW (zq hcmp hrow natC hlm hw @zhj) (za zbH <| zb _)
   all_goals first|omega|skip
   refine (zeK (i:=0) (j:=1) (o:=0) (T:=85) (cs:= [if i=0 then .d .nilp else .tp 0 0,.bsl 1 b.length]) (xs:=b) rfl (by by_cases h0:i=0<;>simp [h0]) rfl rfl rfl zf4 (by omega)).mono ?_
   rintro r h' ⟨rfl,rfl⟩
   refine' zc fx
   exact ⟨⟨i+1,by omega⟩,by simp only [AS.le,leT,leH,zf,AsgK,AV.le,AV.leL,AObj.le,inH,idsT,idsH,AV.ids,AV.idsL,AV.idsR,AObj.ids,lk,hget,go_sem,aeq,aeq.aeqF,simprocAttr,hwi,hsn,hif,List.length_append],by simp;omega⟩
  |u32 n=>
   simp only [anvR,anvOk,anvB] at hrow hvo hsn
   have hw:IntKind.u64.wrap n=n:=zT (by omega) (by omega)
   have hpn:=zu n.toNat 4
   refine' walkW (zq hcmp hrow natC hlm hw @zfd) (za zbH <| zb _)
   all_goals first|omega|skip
   refine (zeK (i:=0) (j:=1) (o:=0) (T:=85) (cs:= [if i=0 then .d .nilp else .tp 0 0,.bsl 1 b.length]) (xs:=b) rfl (by by_cases h0:i=0<;>simp [h0]) rfl rfl rfl zf4 (by omega)).mono ?_
   rintro r h' ⟨rfl,rfl⟩
   refine' zc fx
   exact ⟨⟨i+1,by omega⟩,by simp only [AS.le,leT,leH,zf,AsgK,AV.le,AV.leL,AObj.le,inH,idsT,idsH,AV.ids,AV.idsL,AV.idsR,AObj.ids,lk,hget,go_sem,aeq,aeq.aeqF,simprocAttr,hwi,hsn,hif,List.length_append],by simp;omega⟩
  |u64 n=>
   simp only [anvR,anvOk,anvB] at hrow hvo hsn
   have hpn:=zu n.toNat 8
   refine' walkW (zaH hcmp hrow natC hlm @zjC) (za zbH <| zb _)
   all_goals first|omega|skip
   refine (zeK (i:=0) (j:=1) (o:=0) (T:=85) (cs:= [if i=0 then .d .nilp else .tp 0 0,.bsl 1 b.length]) (xs:=b) rfl (by by_cases h0:i=0<;>simp [h0]) rfl rfl rfl zf4 (by omega)).mono ?_
   rintro r h' ⟨rfl,rfl⟩
   refine' zc fx
   exact ⟨⟨i+1,by omega⟩,by simp only [AS.le,leT,leH,zf,AsgK,AV.le,AV.leL,AObj.le,inH,idsT,idsH,AV.ids,AV.idsL,AV.idsR,AObj.ids,lk,hget,go_sem,aeq,aeq.aeqF,simprocAttr,hwi,hsn,hif,List.length_append],by simp;omega⟩
  |str s=>
   simp only [anvR,anvOk,anvB] at hrow hvo hsn
   refine' walkW (zS hcmp hrow natC hlm) (za zbH <| zb _)
   all_goals first|omega|skip
   refine (zeK (i:=0) (j:=1) (o:=0) (T:=85) (cs:= [if i=0 then .d .nilp else .tp 0 0,.bsl 1 b.length]) (xs:=b) rfl (by by_cases h0:i=0<;>simp [h0]) rfl rfl rfl zf4 (by omega)).mono ?_
   rintro r h' ⟨rfl,rfl⟩
   refine' zc fx
   exact ⟨⟨i+1,by omega⟩,by simp only [AS.le,leT,leH,zf,AsgK,AV.le,AV.leL,AObj.le,inH,idsT,idsH,AV.ids,AV.idsL,AV.idsR,AObj.ids,lk,hget,go_sem,aeq,aeq.aeqF,simprocAttr,hwi,hsn,hif,List.length_append],by simp;omega⟩
 ·have hcmp:decide ((i:Int)<(l.length:Int))=false:=decide_eq_false (by omega)
  have hball:b=anvsB l:=by rw [hb,List.take_of_length_le hge]
  refine' walkW hcmp (za zbH <| zb _)
  refine (zgr (i:=0) (j:=1) (o:=0) (T:=85) (cs:= [if i=0 then .d .nilp else .tp 0 0,.bsl 1 b.length]) (xs:=b) rfl rfl rfl rfl (by omega)).mono ?_
  rintro r h' ⟨rfl,rfl⟩
  simp only [go_sem,aeq,aeq.aeqF,simprocAttr,hset]
  refine' zc fx
  rw [hball]
theorem zqQ (err:Int) (cookie:Int) (data:Txt) (h0:0≤err) (h1:err<4294967296) (hk0:0≤cookie) (hk1:cookie<18446744073709551616) (hd:data.length≤9223372036854775807):ACall Tryz.prog 31 0 [.agg [.d (.int .u32 err),.d (.int .u64 cookie),.d (.str data)]] [] (fun r _=>r= .tup [.d (.str (zcH err cookie data).1),.d (.int .i64 (zcH err cookie data).2)]):=by
 refine fbod Tryz.func31 Tryz.ntmps31 (fun base=>?_)
 by_cases hr:4096<(data.length:Int)∨err≠0∧data≠ []
 ·have hdec:(decide (4096<(data.length:Int))||(data != []&&err !=0))=true:=by
   simp only [Bool.or_eq_true,Bool.and_eq_true,decide_eq_true_eq,bne_iff_ne]
   rw [And.comm]
   exact hr
  refine' zc hdec
  all_goals first|(simp_all;done)|skip
  rw [zcH,if_pos hr]
 ·have hdec:(decide (4096<(data.length:Int))||(data != []&&err !=0))=false:=by
   rw [← Bool.not_eq_true]
   simp only [Bool.or_eq_true,Bool.and_eq_true,decide_eq_true_eq,bne_iff_ne]
   rw [And.comm]
   exact hr
  refine' zc hdec
  all_goals first|(simp_all;done)|skip
  refine (zbJ (zeP [.str zsU,.u32 err,.u64 cookie,.str data] (by simp [anvOk,zsU];omega) (by simp))).mono ?_
  rintro r h' ⟨rfl,rfl⟩
  simp only [go_sem,aeq,aeq.aeqF,simprocAttr]
  refine' zc fx
  rw [zcH,if_neg hr]
  simp [anvsB,anvB]
@[go_sem] noncomputable def zaP:Ent Tryz.prog 31:= .ofL (consL (aggT (consL (intT .u32) (consL (intT .u64) (consL strT nilL))) (fun p=>p) (fun p=>p) (fun _=>rfl)) nilL) (fun ((err,cookie,data,_),_)=>(0≤err)∧(err<4294967296)∧(0≤cookie)∧(cookie<18446744073709551616)∧(data.length≤9223372036854775807)) (fun ((err,cookie,data,_),_)=> .tup [.d (.str (zcH err cookie data).1),.d (.int .i64 (zcH err cookie data).2)]) (fun ((err,cookie,data,_),_) hp=>⟨rfl,zqQ err cookie data hp.1 hp.2.1 hp.2.2.1 hp.2.2.2.1 hp.2.2.2.2⟩)
theorem zs8 (dn:Bool) (kind:Int) (cookie:Int) (data:Txt) (hk0:0≤cookie) (hk1:cookie<18446744073709551616) (hd:data.length≤9223372036854775807):ACall Tryz.prog 78 0 [.agg [.d (.bool dn),.d (.int .i64 kind),.d (.int .u64 cookie),.d (.str data)]] [] (fun r _=>r= .tup [.d (.str (zaV dn kind cookie data).1),.d (.int .i64 (zaV dn kind cookie data).2)]):=by
 refine fbod Tryz.func78 Tryz.ntmps78 (fun base=>?_)
 by_cases hr:kind<0∨65535<kind
 ·have hdec:(decide (kind<0)||decide (65536≤kind))=true:=by
   simp only [Bool.or_eq_true,decide_eq_true_eq];omega
  refine' zc hdec
  rw [zaV,if_pos hr]
 ·have hdec:(decide (kind<0)||decide (65536≤kind))=false:=by
   rw [← Bool.not_eq_true]
   simp only [Bool.or_eq_true,decide_eq_true_eq];omega
  have hw1:IntKind.u16.wrap kind=kind:=by rw [IntKind.wrap_u16];omega
  cases hs:decide (4128<(data.length:Int)) with
  |true=>
   refine' zc (zk hdec hs)
   rw [zaV,if_neg hr,if_pos (by simpa using hs)]
  | false=>
   have hs2:¬4128<(data.length:Int):=by simpa using hs
   have hw2:IntKind.u32.wrap (data.length:Int)=data.length:=zfD (by omega) (by omega)
   cases dn with
   |true=>
    refine' zc (zS hdec hs hw1 hw2)
    refine (zbJ (zeP [.str zeM,.u16 1,.u16 kind,.u64 cookie,.u32 data.length,.str data] (by simp [anvOk,zeM];omega) (by simp))).mono ?_
    rintro r h' ⟨rfl,rfl⟩
    simp only [go_sem,aeq,aeq.aeqF,simprocAttr]
    refine' zc fx
    rw [zaV,if_neg hr,if_neg hs2]
    simp [anvsB,anvB]
   |false=>
    refine' zc (zS hdec hs hw1 hw2)
    refine (zbJ (zeP [.str zeM,.u16 0,.u16 kind,.u64 cookie,.u32 data.length,.str data] (by simp [anvOk,zeM];omega) (by simp))).mono ?_
    rintro r h' ⟨rfl,rfl⟩
    simp only [go_sem,aeq,aeq.aeqF,simprocAttr]
    refine' zc fx
    rw [zaV,if_neg hr,if_neg hs2]
    simp [anvsB,anvB]
@[go_sem] noncomputable def zod:Ent Tryz.prog 78:= .ofL (consL (aggT (consL boolT (consL (intT .i64) (consL (intT .u64) (consL strT nilL)))) (fun p=>p) (fun p=>p) (fun _=>rfl)) nilL) (fun ((dn,kind,cookie,data,_),_)=>(0≤cookie)∧(cookie<18446744073709551616)∧(data.length≤9223372036854775807)) (fun ((dn,kind,cookie,data,_),_)=> .tup [.d (.str (zaV dn kind cookie data).1),.d (.int .i64 (zaV dn kind cookie data).2)]) (fun ((dn,kind,cookie,data,_),_) hp=>⟨rfl,zs8 dn kind cookie data hp.1 hp.2.1 hp.2.2⟩)
theorem zvd (frm:Int) (s:Txt) (hp:0≤frm∧frm<18446744073709551616∧s.length≤1000000):AC 33 [.d (.int .u64 frm),.d (.str s)] (.d (.str (rdata frm s))):=by
 obtain ⟨h0,h1,hs⟩:=hp
 refine fbod Tryz.func33 Tryz.ntmps33 (fun base=>?_)
 refine' zc fx
 refine (zbJ (zeP [.u64 frm,.str s] (by simp [anvOk];omega) (by simp))).mono ?_
 rintro r h' ⟨rfl,rfl⟩
 simp only [go_sem,aeq,aeq.aeqF,simprocAttr]
 refine' zc fx
 simp [anvsB,anvB,rdata]
@[go_sem] noncomputable def zbD:Ent Tryz.prog 33:= .m2 (intT .u64) strT zvd
theorem zve (e:Int) (hp:0≤e∧e<4294967296):AC 41 [.d (.int .u32 e)] (.d (.str (rfail e))):=by
 obtain ⟨h0,h1⟩:=hp
 refine fbod Tryz.func41 Tryz.ntmps41 (fun base=>?_)
 refine' zc fx
 refine (zbJ (zeP [.u32 e,.u16 0] (by simp [anvOk];omega) (by simp))).mono ?_
 rintro r h' ⟨rfl,rfl⟩
 simp only [go_sem,aeq,aeq.aeqF,simprocAttr]
 refine' zc fx
 simp [anvsB,anvB,rfail]
 rfl
@[go_sem] noncomputable def zg3:Ent Tryz.prog 41:= .m1 (intT .u32) zve
theorem zqR (ctx:Int) (l:List Ext) (hp:0≤ctx∧ctx<4294967296∧l.length≤9223372036854775807):AC 34 [.d (.int .u32 ctx),.d (.sl 2 (l.map extD))] (.tup [.d (.str (zcI ctx l).1),.d (.int .i64 (zcI ctx l).2)]):=by
 obtain ⟨h0,h1,hl⟩:=hp
 refine fbod Tryz.func34 Tryz.ntmps34 (fun base=>?_)
 obtain ⟨Z,hZ⟩:∃Z,Z=zcI ctx l:=⟨_,rfl⟩
 rw [← hZ]
 rw [zcI] at hZ
 have hl4:=fun n=>zu n 4
 by_cases hr:l.length=0∨500<l.length
 ·rw [if_pos hr] at hZ
  have hdec:((l.length:Int)==0||decide (500<(l.length:Int)))=true:=by
   simp only [Bool.or_eq_true,beq_iff_eq,decide_eq_true_eq];omega
  refine' zc hdec
  rw [hZ]
 ·rw [if_neg hr] at hZ
  have hdec:((l.length:Int)==0||decide (500<(l.length:Int)))=false:=by
   rw [← Bool.not_eq_true]
   simp only [Bool.or_eq_true,beq_iff_eq,decide_eq_true_eq];omega
  refine' zc hdec
  refine (zbJ (zeP [.u32 ctx] (by simp [anvOk];omega) (by simp))).mono ?_
  rintro r h' ⟨rfl,rfl⟩
  simp only [go_sem,aeq,aeq.aeqF,simprocAttr]
  refine' zc fx
  have hb0:anvsB [.u32 ctx]=putN ctx.toNat 4:=by simp [anvsB,anvB]
  refine zo (fun q: { q:Nat×Txt // q.1≤l.length∧q.2.length=4+8*q.1∧Z=rrows (l.drop q.1) q.2 } =>⟨[(6,true,.d (.str q.1.2)),(21,true,.d (.sl 2 (l.map extD))),(22,true,.d (.int .i64 l.length)),(23,true,.d (.int .i64 q.1.1))],[],some []⟩) (fun q=>l.length - q.1.1) ⟨(0,putN ctx.toNat 4),Nat.zero_le _,zu _ _,hZ⟩ (by simp only [AS.le,leT,leH,zf,AsgK,AV.le,AV.leL,AObj.le,inH,idsT,idsH,AV.ids,AV.idsL,AV.idsR,AObj.ids,lk,hget,go_sem,aeq,aeq.aeqF,simprocAttr,hb0]<;>and_intros<;>rfl) (fun q=>?_)
  obtain ⟨⟨i,s⟩,hi,hs,hf⟩:=q
  simp only at hi hs hf ⊢
  rcases zD extD l i hi with ⟨e,hq,hlt,hcmp,hrow,hdr,htk⟩|⟨hend,hcmp⟩
  ·simp only [extD] at hrow
   have hwi:=zn (i:=i) (by omega)
   have hn:=zmg e
   rw [hdr,rrows] at hf
   cases he:extOk e with
   |false=>
    rw [he] at hf hn
    rw [if_neg (by decide)] at hf
    refine' zc (zr hcmp hrow hn)
    rw [hf]
   |true=>
    rw [he] at hf hn
    rw [if_pos rfl] at hf
    have he2:=he
    unfold extOk at he2
    simp only [Bool.and_eq_true,decide_eq_true_eq] at he2
    have hw1:IntKind.u32.wrap e.len=e.len:=zfD (by omega) (by omega)
    have hw2:IntKind.u32.wrap e.flags=e.flags:=zfD (by omega) (by omega)
    refine' zc (zaH hcmp hrow hn hw1 hw2)
    refine (zbJ (zeP [.u32 e.len,.u32 e.flags] (by simp [anvOk];omega) (by simp))).mono ?_
    rintro r h' ⟨rfl,rfl⟩
    have hla:=zu e.len.toNat 4
    have hlb:=zu e.flags.toNat 4
    have hb1:anvsB [.u32 e.len,.u32 e.flags]=putN e.len.toNat 4++putN e.flags.toNat 4:=by simp [anvsB,anvB]
    simp only [go_sem,aeq,aeq.aeqF,simprocAttr,hb1]
    refine' zc (zr hb1 @List.length_append.{0} hl4)
    all_goals first|omega|(refine (show s.length+(putN e.len.toNat 4++putN e.flags.toNat 4).length<9223372036854775808 from ?_);rw [List.length_append];omega)|skip
    exact ⟨⟨(i+1,s++putN e.len.toNat 4++putN e.flags.toNat 4),by omega,by simp only [List.length_append,hl4];omega,hf⟩,by simp only [List.append_assoc];simp only [AS.le,leT,leH,zf,AsgK,AV.le,AV.leL,AObj.le,inH,idsT,idsH,AV.ids,AV.idsL,AV.idsR,AObj.ids,lk,hget,go_sem,aeq,aeq.aeqF,simprocAttr,hwi]<;>and_intros<;>rfl,by simp;omega⟩
  ·refine' zc hcmp
   rw [hf,hend,List.drop_length]
   rfl
@[go_sem] noncomputable def zbQ:Ent Tryz.prog 34:= .m2 (intT .u32) (slT 2 extD zb1) zqR
end Go.Aw
