/-
 Parts of the proof: lemmas.
-/
import Derived.Test.YtgldbfelccddbaaGreatPart20
import Derived.Test.YtgldbfelccddbaaGreatPart19
import Derived.Test.YtgldbfelccddbaaGreatPart21
set_option maxRecDepth 100000
set_option maxHeartbeats 2000000
set_option linter.unusedSimpArgs false
set_option linter.unusedVariables false
namespace Go.Aw
open Go Go.Proofs
theorem zaJ {P:Program} {f:FuncId} {fl:Nat} {args:List AV} {r:AV} {h:AHeap} (hc:ACall P f 0 args [] (fun r' _=>r'=r)) (hz:args.map (frz 9 h)=args:=by rfl) (hids:AV.idsL args= []:=by first|rfl|simp [AV.idsL,AV.ids,AV.idsR]) (hri:r.ids= []:=by rfl):ACallAt P fl f args h (fun r' h'=>r'=r∧h'=h):=ACall.data (n:=9) (by rw [hz];exact hc) hids hri
inductive Anyv where
 |u16 (n:Int)
 |u32 (n:Int)
 |u64 (n:Int)
 |str (s:Txt)
def anvR:Anyv→List AV
 | .u16 n=> [.iface 325 (.d (.int .u16 n))]
 | .u32 n=> [.iface 67 (.d (.int .u32 n))]
 | .u64 n=> [.iface 22 (.d (.int .u64 n))]
 | .str s=> [.iface 9 (.d (.str s))]
def anvB:Anyv→Txt
 | .u16 n=>putN n.toNat 2
 | .u32 n=>putN n.toNat 4
 | .u64 n=>putN n.toNat 8
 | .str s=>s
def anvOk:Anyv→Prop
 | .u16 n=>0≤n∧n<65536
 | .u32 n=>0≤n∧n<4294967296
 | .u64 n=>0≤n∧n<18446744073709551616
 | .str s=>s.length≤2000000
def anvsB (l:List Anyv):Txt:=l.flatMap anvB
@[simp, go_sem] theorem zyT:anvsB []= []:=rfl
@[go_sem] theorem zwj:∀l:List Anyv,AV.idsR (l.map anvR)= []
 | []=>rfl
 |v::l=>by
  rw [List.map_cons,AV.idsR,zwj l]
  cases v<;>rfl
theorem zrf (l:List Anyv) (v:Anyv):anvsB (l++ [v])=anvsB l++anvB v:=by simp [anvsB]
theorem zmM:∀ {l:List Anyv},(∀v∈l,anvOk v)→(anvsB l).length≤2000000*l.length
 | [],_=>Nat.zero_le _
 | v::l,h=>by
  have h1:=zmM (l:=l) (fun y hy=>h y (List.mem_cons_of_mem _ hy))
  have h2:=h v List.mem_cons_self
  have h3:(anvB v).length≤2000000:=by
   cases v<;>simp only [anvB,zu,anvOk] at h2 ⊢ <;>omega
  simp only [anvsB,List.flatMap_cons,List.length_append,List.length_cons] at h1 ⊢
  omega
theorem zgt (l:List Anyv) (h:∀v∈l,anvOk v) (hl:l.length≤10):ACall Tryz.prog 186 0 [.asl 1 (l.map anvR)] [] (fun r _=>r= .d (.str (anvsB l))):=by
 refine fbod Tryz.func186 Tryz.ntmps186 (fun base=>?_)
 have hlm:(l.map anvR).length=l.length:=List.length_map _
 refine' walkW hlm (za za0 <| zb _)
 refine ziw 0 1 rfl rfl ?_
 simp only [go_sem,aeq,aeq.aeqF,simprocAttr]
 refine zk (fun q: { i:Nat // i≤l.length } =>⟨[(3,true,.tp 0 0),(10,true,.asl 1 (l.map anvR)),(11,true,.d (.int .i64 l.length)),(12,true,.d (.int .i64 q.1))],[(1,.buf 5 (anvsB (l.take q.1))),(0,.tvar 180 [if q.1=0 then .d .nilp else .tp 0 0,.bsl 1 (anvsB (l.take q.1)).length])],some []⟩) (fun q=>l.length - q.1) ⟨0,Nat.zero_le _⟩ (by simp only [AS.le,leT,leH,zf,AsgK,AV.le,AV.leL,AObj.le,inH,idsT,idsH,AV.ids,AV.idsL,AV.idsR,AObj.ids,lk,hget,go_sem,aeq,aeq.aeqF,simprocAttr,if_true,List.take_zero]<;>and_intros<;>rfl) (fun q=>?_)
 obtain ⟨i,hi⟩:=q
 simp only at hi ⊢
 obtain ⟨b,hb⟩:∃b,b=anvsB (l.take i):=⟨_,rfl⟩
 have hbl:b.length≤20000000:=by
  have:=zmM (l:=l.take i) (fun v hv=>h v (List.mem_of_mem_take hv))
  rw [List.length_take] at this
  rw [hb]
  omega
 rw [← hb]
 rcases Nat.lt_or_ge i l.length with hlt|hge
 ·obtain ⟨v,hv⟩:=zaH hlt
  have hrow:=zbJ (g:=anvR) hv
  have hcmp:decide ((i:Int)<(l.length:Int))=true:=decide_eq_true U
  have hwi:=zn (i:=i) U
  have hvo:=h v (List.mem_of_getElem? hv)
  have hsn:anvsB (l.take (i+1))=b++anvB v:=by rw [zcz hv,zrf,hb]
  have hif:(if i+1=0 then AV.d .nilp else AV.tp 0 0)= .tp 0 0:=if_neg U
  have hgo:∀t:Txt,t=anvB v→∃q': { i:Nat // i≤l.length },q'.1=i+1∧anvsB (l.take q'.1)=b++t:=by
   rintro t rfl
   exact ⟨⟨i+1,U⟩,rfl,hsn⟩
  cases v with
  |u16 n=>
   simp only [anvR,anvOk,anvB] at hrow hvo hsn
   have hw:IntKind.u64.wrap n=n:=zA U U
   have hpn:=zu n.toNat 2
   refine' walkW (zo hcmp hrow natC hlm hw @zjH) (za za0 <| zb _)
   all_goals first|omega|skip
   refine (zdP (i:=0) (j:=1) (o:=0) (T:=180) (cs:= [if i=0 then .d .nilp else .tp 0 0,.bsl 1 b.length]) (xs:=b) rfl (by by_cases h0:i=0<;>simp [h0]) rfl rfl rfl zg4 U).mono ?_
   rintro r h' ⟨rfl,rfl⟩
   refine' zc fx
   exact ⟨⟨i+1,U⟩,cm,af⟩
  |u32 n=>
   simp only [anvR,anvOk,anvB] at hrow hvo hsn
   have hw:IntKind.u64.wrap n=n:=zA U U
   have hpn:=zu n.toNat 4
   refine' walkW (zo hcmp hrow natC hlm hw @zeR) (za za0 <| zb _)
   all_goals first|omega|skip
   refine (zdP (i:=0) (j:=1) (o:=0) (T:=180) (cs:= [if i=0 then .d .nilp else .tp 0 0,.bsl 1 b.length]) (xs:=b) rfl (by by_cases h0:i=0<;>simp [h0]) rfl rfl rfl zg4 U).mono ?_
   rintro r h' ⟨rfl,rfl⟩
   refine' zc fx
   exact ⟨⟨i+1,U⟩,cm,af⟩
  |u64 n=>
   simp only [anvR,anvOk,anvB] at hrow hvo hsn
   have hpn:=zu n.toNat 8
   refine' walkW (zaB hcmp hrow natC hlm @zeS) (za za0 <| zb _)
   all_goals first|omega|skip
   refine (zdP (i:=0) (j:=1) (o:=0) (T:=180) (cs:= [if i=0 then .d .nilp else .tp 0 0,.bsl 1 b.length]) (xs:=b) rfl (by by_cases h0:i=0<;>simp [h0]) rfl rfl rfl zg4 U).mono ?_
   rintro r h' ⟨rfl,rfl⟩
   refine' zc fx
   exact ⟨⟨i+1,U⟩,cm,af⟩
  |str s=>
   simp only [anvR,anvOk,anvB] at hrow hvo hsn
   refine' walkW (zE hcmp hrow natC hlm) (za za0 <| zb _)
   all_goals first|omega|skip
   refine (zdP (i:=0) (j:=1) (o:=0) (T:=180) (cs:= [if i=0 then .d .nilp else .tp 0 0,.bsl 1 b.length]) (xs:=b) rfl (by by_cases h0:i=0<;>simp [h0]) rfl rfl rfl zg4 U).mono ?_
   rintro r h' ⟨rfl,rfl⟩
   refine' zc fx
   exact ⟨⟨i+1,U⟩,cm,af⟩
 ·have hcmp:decide ((i:Int)<(l.length:Int))=false:=decide_eq_false U
  have hball:b=anvsB l:=by rw [hb,List.take_of_length_le hge]
  refine' walkW hcmp (za za0 <| zb _)
  refine (ziv (i:=0) (j:=1) (o:=0) (T:=180) (cs:= [if i=0 then .d .nilp else .tp 0 0,.bsl 1 b.length]) (xs:=b) rfl rfl rfl rfl U).mono ?_
  rintro r h' ⟨rfl,rfl⟩
  simp only [go_sem,aeq,aeq.aeqF,simprocAttr,hset]
  refine' zc fx
  rw [hball]
theorem zrg (err:Int) (cookie:Int) (data:Txt) (h0:0≤err) (h1:err<4294967296) (hk0:0≤cookie) (hk1:cookie<18446744073709551616) (hd:data.length≤9223372036854775807):ACall Tryz.prog 109 0 [.agg [.d (.int .u32 err),.d (.int .u64 cookie),.d (.str data)]] [] (fun r _=>r= .tup [.d (.str (zb7 err cookie data).1),.d (.int .i64 (zb7 err cookie data).2)]):=by
 refine fbod Tryz.func109 Tryz.ntmps109 (fun base=>?_)
 by_cases hr:4096<(data.length:Int)∨err≠0∧data≠ []
 ·have hdec:(decide (4096<(data.length:Int))||(data != []&&err !=0))=true:=by
   simp only [Bool.or_eq_true,Bool.and_eq_true,decide_eq_true_eq,bne_iff_ne]
   rw [And.comm]
   exact hr
  refine' zc hdec
  all_goals first|(simp_all;done)|skip
  rw [zb7,if_pos hr]
 ·have hdec:(decide (4096<(data.length:Int))||(data != []&&err !=0))=false:=by
   rw [← Bool.not_eq_true]
   simp only [Bool.or_eq_true,Bool.and_eq_true,decide_eq_true_eq,bne_iff_ne]
   rw [And.comm]
   exact hr
  refine' zc hdec
  all_goals first|(simp_all;done)|skip
  refine (zaJ (zgt [.str zpR,.u32 err,.u64 cookie,.str data] (by simp [anvOk,zpR];omega) aa)).mono ?_
  rintro r h' ⟨rfl,rfl⟩
  simp only [go_sem,aeq,aeq.aeqF,simprocAttr]
  refine' zc fx
  rw [zb7,if_neg hr]
  simp [anvsB,anvB]
@[go_sem] noncomputable def ze1:Ent Tryz.prog 109:= .ofL (consL (aggT (consL (intT .u32) (consL (intT .u64) (consL strT nilL))) (fun p=>p) (fun p=>p) (fun _=>rfl)) nilL) (fun ((err,cookie,data,_),_)=>(0≤err)∧(err<4294967296)∧(0≤cookie)∧(cookie<18446744073709551616)∧(data.length≤9223372036854775807)) (fun ((err,cookie,data,_),_)=> .tup [.d (.str (zb7 err cookie data).1),.d (.int .i64 (zb7 err cookie data).2)]) (fun ((err,cookie,data,_),_) hp=>⟨rfl,zrg err cookie data hp.1 hp.2.1 hp.2.2.1 hp.2.2.2.1 hp.2.2.2.2⟩)
theorem zt0 (dn:Bool) (kind:Int) (cookie:Int) (data:Txt) (hk0:0≤cookie) (hk1:cookie<18446744073709551616) (hd:data.length≤9223372036854775807):ACall Tryz.prog 187 0 [.agg [.d (.bool dn),.d (.int .i64 kind),.d (.int .u64 cookie),.d (.str data)]] [] (fun r _=>r= .tup [.d (.str (za2 dn kind cookie data).1),.d (.int .i64 (za2 dn kind cookie data).2)]):=by
 refine fbod Tryz.func187 Tryz.ntmps187 (fun base=>?_)
 by_cases hr:kind<0∨65535<kind
 ·have hdec:(decide (kind<0)||decide (65536≤kind))=true:=by
   simp only [Bool.or_eq_true,decide_eq_true_eq];omega
  refine' zc hdec
  rw [za2,if_pos hr]
 ·have hdec:(decide (kind<0)||decide (65536≤kind))=false:=by
   rw [← Bool.not_eq_true]
   simp only [Bool.or_eq_true,decide_eq_true_eq];omega
  have hw1:IntKind.u16.wrap kind=kind:=by rw [IntKind.wrap_u16];omega
  cases hs:decide (4128<(data.length:Int)) with
  |true=>
   refine' zc (zj hdec hs)
   rw [za2,if_neg hr,if_pos cj]
  | false=>
   have hs2:¬4128<(data.length:Int):=cj
   have hw2:IntKind.u32.wrap (data.length:Int)=data.length:=zbT U U
   cases dn with
   |true=>
    refine' zc (zE hdec hs hw1 hw2)
    refine (zaJ (zgt [.str zer,.u16 1,.u16 kind,.u64 cookie,.u32 data.length,.str data] (by simp [anvOk,zer];omega) aa)).mono ?_
    rintro r h' ⟨rfl,rfl⟩
    simp only [go_sem,aeq,aeq.aeqF,simprocAttr]
    refine' zc fx
    rw [za2,if_neg hr,if_neg hs2]
    simp [anvsB,anvB]
   |false=>
    refine' zc (zE hdec hs hw1 hw2)
    refine (zaJ (zgt [.str zer,.u16 0,.u16 kind,.u64 cookie,.u32 data.length,.str data] (by simp [anvOk,zer];omega) aa)).mono ?_
    rintro r h' ⟨rfl,rfl⟩
    simp only [go_sem,aeq,aeq.aeqF,simprocAttr]
    refine' zc fx
    rw [za2,if_neg hr,if_neg hs2]
    simp [anvsB,anvB]
@[go_sem] noncomputable def zoA:Ent Tryz.prog 187:= .ofL (consL (aggT (consL boolT (consL (intT .i64) (consL (intT .u64) (consL strT nilL)))) (fun p=>p) (fun p=>p) (fun _=>rfl)) nilL) (fun ((dn,kind,cookie,data,_),_)=>(0≤cookie)∧(cookie<18446744073709551616)∧(data.length≤9223372036854775807)) (fun ((dn,kind,cookie,data,_),_)=> .tup [.d (.str (za2 dn kind cookie data).1),.d (.int .i64 (za2 dn kind cookie data).2)]) (fun ((dn,kind,cookie,data,_),_) hp=>⟨rfl,zt0 dn kind cookie data hp.1 hp.2.1 hp.2.2⟩)
theorem zwk (frm:Int) (s:Txt) (hp:0≤frm∧frm<18446744073709551616∧s.length≤1000000):AC 111 [.d (.int .u64 frm),.d (.str s)] (.d (.str (rdata frm s))):=by
 obtain ⟨h0,h1,hs⟩:=hp
 refine fbod Tryz.func111 Tryz.ntmps111 (fun base=>?_)
 refine' zc fx
 refine (zaJ (zgt [.u64 frm,.str s] (by simp [anvOk];omega) aa)).mono ?_
 rintro r h' ⟨rfl,rfl⟩
 simp only [go_sem,aeq,aeq.aeqF,simprocAttr]
 refine' zc fx
 simp [anvsB,anvB,rdata]
@[go_sem] noncomputable def zg6:Ent Tryz.prog 111:= .m2 (intT .u64) strT zwk
theorem zwl (e:Int) (hp:0≤e∧e<4294967296):AC 148 [.d (.int .u32 e)] (.d (.str (rfail e))):=by
 obtain ⟨h0,h1⟩:=hp
 refine fbod Tryz.func148 Tryz.ntmps148 (fun base=>?_)
 refine' zc fx
 refine (zaJ (zgt [.u32 e,.u16 0] (by simp [anvOk];omega) aa)).mono ?_
 rintro r h' ⟨rfl,rfl⟩
 simp only [go_sem,aeq,aeq.aeqF,simprocAttr]
 refine' zc fx
 simp [anvsB,anvB,rfail]
 rfl
@[go_sem] noncomputable def zg7:Ent Tryz.prog 148:= .m1 (intT .u32) zwl
open Go Go.Proofs
theorem znp (d:Disk) (hp:DiskF d∧zqn d∧(dflush d).2=0):AC 169 [diskA d] (.tup [diskA (dflush d).1,.agg [.d (.int .u64 1),.d (.int .i64 0)],.d (.int .i64 0)]):=by
 obtain ⟨hd,h,h0⟩:=hp
 have hdo:=hd.ok
 have hdp:=hd.puts
 refine fbod Tryz.func169 Tryz.ntmps169 (fun base=>?_)
 refine' walkW h0 (za zno <| za zaU <| zb _)
@[go_sem] noncomputable def zjb:Ent Tryz.prog 169:= .m1 zV znp
def dm0:Dmap:=⟨[],false,List.replicate 64 false⟩
@[go_sem] def dmC:List AV:= [.d (.str []),.d (.bool false),.d (.bool false),.d (.bool false),.d (.bool false),.d (.bool false),.d (.bool false),.d (.bool false),.d (.bool false),.d (.bool false),.d (.bool false),.d (.bool false),.d (.bool false),.d (.bool false),.d (.bool false),.d (.bool false),.d (.bool false),.d (.bool false),.d (.bool false),.d (.bool false),.d (.bool false),.d (.bool false),.d (.bool false),.d (.bool false),.d (.bool false),.d (.bool false),.d (.bool false),.d (.bool false),.d (.bool false),.d (.bool false),.d (.bool false),.d (.bool false),.d (.bool false),.d (.bool false),.d (.bool false),.d (.bool false),.d (.bool false),.d (.bool false),.d (.bool false),.d (.bool false),.d (.bool false),.d (.bool false),.d (.bool false),.d (.bool false),.d (.bool false),.d (.bool false),.d (.bool false),.d (.bool false),.d (.bool false),.d (.bool false),.d (.bool false),.d (.bool false),.d (.bool false),.d (.bool false),.d (.bool false),.d (.bool false),.d (.bool false),.d (.bool false),.d (.bool false),.d (.bool false),.d (.bool false),.d (.bool false),.d (.bool false),.d (.bool false),.d (.bool false),.d (.bool false)]
theorem zpc:ACall Tryz.prog 290 0 [.agg dmC] [] (fun r _=>r= .tup [.d (.str blank),.d (.bool true)]):=by
 refine fbod Tryz.func290 Tryz.ntmps290 (fun base=>?_)
 unfold dmC
 refine' walkW fx (za zgp <| zb _)
 rfl
@[go_sem] noncomputable def zlD:Ent Tryz.prog 290:= .ofL (consL (zbG (.agg dmC)) nilL) (fun (_,_)=>True) (fun (_,_)=> .tup [.d (.str blank),.d (.bool true)]) (fun (_,_) hp=>⟨rfl,zpc⟩)
def zj7 (d:Disk):Prop:=∀i:Nat,i<2→plook d p0 (4+i)=(blank,0)
def dms (i:Nat):List (List D):=List.replicate i (dmapD dm0)
theorem zpd (d:Disk) (hd:DiskOk d) (h:zj7 d):ACall Tryz.prog 229 0 [diskA d,.agg [.d (.sl 1 []),.d (.sl 1 [])]] [] (fun r _=>r= .tup [.d (.sl 66 (dms 2)),.d (.int .i64 0)]):=by
 have hp:=PlanOk.of zdw
 have hbz:blank=List.replicate (Int.toNat 64) 0:=rfl
 have hz:(blank !=List.replicate (Int.toNat 64) 0)=false:=by rw [← hbz];simp
 refine fbod Tryz.func229 Tryz.ntmps229 (fun base=>?_)
 refine' zad (zN 2) fx
 refine zaI 6 66 rfl ?_
 simp only [go_sem,aeq,aeq.aeqF,simprocAttr]
 refine' zc fx
 have hrl:∀i,(dms i).length=i:=fun i=>List.length_replicate ..
 refine zk (fun q: { i:Nat // i≤2 } =>⟨[(2,true,.vp 0 0),(3,true,.vp 1 0),(6,true,.osl 2 66 q.1 0 q.1),(7,true,.d (.int .i64 q.1))],[(2,.arr 66 (dms q.1)),(1,.var [.d (.sl 1 []),.d (.sl 1 [])]),(0,.var [.d (.str d.data),.d (.sl 2 (d.cache.map putD)),.d (.int .i64 d.fuse),.d (.bool d.off),.d (.sl 1 (d.bad.map intD))])],some []⟩) (fun q=>2 - q.1) ⟨0,Nat.zero_le _⟩ le1 (fun q=>?_)
 obtain ⟨i,hi⟩:=q
 simp only at hi ⊢
 have hwi:=zn (i:=i) U
 rcases Nat.lt_or_ge i 2 with hlt|hge
 ·have hcmp:decide ((i:Int)<2)=true:=decide_eq_true U
  have hw4:IntKind.i64.wrap (4+(i:Int))=4+i:=zi U U
  have hrd:=h i hlt
  have hsn:dms (i+1)=dms i++ [dmapD dm0]:=List.replicate_succ'
  refine' walkW (zaB hcmp hw4 hrd hrl hz) (za zQ <| za zgp <| za zlD <| zb _)
  ·rfl
  ·exact ⟨⟨i+1,U⟩,dJ,af⟩
 ·obtain rfl:i=2:=by omega
  refine' zc hrl
  rfl
@[go_sem] noncomputable def zgF:Ent Tryz.prog 229:= .ofL (consL zV (consL (aggT (consL (zbG (.d (.sl 1 []))) (consL (zbG (.d (.sl 1 []))) nilL)) (fun p=>p) (fun p=>p) (fun _=>rfl)) nilL)) (fun (d,(_,_,_),_)=>(DiskOk d)∧(zj7 d)) (fun (d,(_,_,_),_)=> .tup [.d (.sl 66 (dms 2)),.d (.int .i64 0)]) (fun (d,(_,_,_),_) hp=>⟨rfl,zpd d hp.1 hp.2⟩)
theorem zpe (x:Img) (h:ImgF x):ACall Tryz.prog 232 0 [imgA x,.agg [.d (.sl 1 []),.d (.sl 1 [])]] [] (fun r _=>r= .tup [imgA (cdone x p0).1,.d (.int .i64 (cdone x p0).2)]):=by
 have:=h.seq1
 exact zjN x p0 h.ok h.disk zdw h.seq0 U
@[go_sem] noncomputable def zgG:Ent Tryz.prog 232:= .ofL (consL zbk (consL (aggT (consL (zbG (.d (.sl 1 []))) (consL (zbG (.d (.sl 1 []))) nilL)) (fun p=>p) (fun p=>p) (fun _=>rfl)) nilL)) (fun (x,(_,_,_),_)=>ImgF x) (fun (x,(_,_,_),_)=> .tup [imgA (cdone x p0).1,.d (.int .i64 (cdone x p0).2)]) (fun (x,(_,_,_),_) hp=>⟨rfl,zpe x hp⟩)
theorem zpf (x:Img) (h:ImgF x) (hm:zj7 x.disk) (hb:x.broken=false) (he:(cdone x p0).2=0):ACall Tryz.prog 171 0 [imgA x] [] (fun r _=>r= .tup [imgA { (cdone x p0).1 with maps:= [] },.d (.int .i64 0)]):=by
 have hok:=h.ok
 have hd:=h.disk
 have hdo:=hd.ok
 have hp:=zdw
 have hs0:=h.seq0
 have hs1:=h.seq1
 have hrl:(dms 2).length=2:=rfl
 have hr:∀i,i<2→(dms 2).getD i []=dmapD dm0:=fun i hi=>by rw [dms,List.getD_eq_getElem?_getD,List.getElem?_replicate,if_pos hi];rfl
 refine fbod Tryz.func171 Tryz.ntmps171 (fun base=>?_)
 refine' walkW hb (za zgF <| za zgG <| zb _)
 refine zk (fun q: { i:Nat // i≤2 } =>⟨[(1,true,.vp 0 0),(2,true,.vp 1 0),(4,true,.d (.sl 66 (dms 2))),(6,true,.vp 2 0),(7,true,.nils 66),(8,true,.d (.int .i64 q.1))],[(2,.var [.d (.sl 1 []),.d (.sl 1 [])]),(1,.var img0),(0,.var (imgC x))],some []⟩) (fun q=>2 - q.1) ⟨0,Nat.zero_le _⟩ (by unfold img0 imgC;simp only [AS.le,leT,leH,zf,AsgK,AV.le,AV.leL,AObj.le,inH,idsT,idsH,AV.ids,AV.idsL,AV.idsR,AObj.ids,lk,hget,go_sem,aeq,aeq.aeqF,simprocAttr]<;>and_intros<;>first|rfl|rw [hb]) (fun q=>?_)
 obtain ⟨i,hi⟩:=q
 simp only [imgC,img0] at hi ⊢
 have hwi:=zn (i:=i) U
 rcases Nat.lt_or_ge i 2 with hlt|hge
 ·have hcmp:decide ((i:Int)<2)=true:=decide_eq_true U
  have hrow:=hr i hlt
  unfold dmapD dm0 at hrow
  refine' zc (zq hcmp hrl hrow)
  exact ⟨⟨i+1,U⟩,lev,af⟩
 ·obtain rfl:i=2:=by omega
  refine' walkW (zj hrl he) (za zgF <| za zgG <| zb _)
theorem ACallAt.le2 {P:Program} {fl:Nat} {f:FuncId} {args args':List AV} {h:AHeap} {K:AV→AHeap→Prop} (hl:AV.leL args args') (hc:ACallAt P fl f args' h K):ACallAt P fl f args h K:=⟨hc.1,fun E w vs hs hr=>hc.2 E w vs hs (Reps.le _ _ _ hl hr)⟩
structure CrOk (d:Disk):Prop where
 disk:DiskF d
 head:dread d 0=(supS,0)
 size:(dsize d:Int)=112
 jour:zqn d
 fl:dflush d=(d,0)
 root:(zR d p0).2=0
 maps:zj7 d
 done:(cdone ⟨d,⟨20,8⟩,⟨1,0⟩,[],false⟩ p0).2=0
theorem zr3 (d:Disk) (h:DiskF d):ACall Tryz.prog 170 0 [diskA d,.agg [.d (.sl 1 []),.d (.sl 1 [])]] [] (fun r _=>r= .tup [rootA (zR d p0).1,.d (.int .i64 (zR d p0).2)]):=by
 exact zmt d p0 ⟨h,zdw⟩
@[go_sem] noncomputable def znq:Ent Tryz.prog 170:= .ofL (consL zV (consL (aggT (consL (zbG (.d (.sl 1 []))) (consL (zbG (.d (.sl 1 []))) nilL)) (fun p=>p) (fun p=>p) (fun _=>rfl)) nilL)) (fun (d,(_,_,_),_)=>DiskF d) (fun (d,(_,_,_),_)=> .tup [rootA (zR d p0).1,.d (.int .i64 (zR d p0).2)]) (fun (d,(_,_,_),_) hp=>⟨rfl,zr3 d hp⟩)
theorem zpg (d:Disk) (h:CrOk d):AC 92 [diskA d] (.tup [imgA { (cdone ⟨d,⟨20,8⟩,⟨1,0⟩,[],false⟩ p0).1 with maps:= [] },.d (.int .i64 0)]):=by
 have h1:=h.disk
 have h2:=h1.ok
 have h3:=h.head
 have h4:=h.size
 have h5:=h.jour
 have h6:=h.fl
 have h7:=h.root
 have h8:=h.maps
 have h9:=h.done
 have hf0:(dflush d).2=0:=by rw [h6]
 have hg:zhu 20 8=112:=ae
 have hx:ImgF ⟨d,⟨20,8⟩,⟨1,0⟩,[],false⟩:=⟨⟨h2,Nat.zero_le _,(fun m hm=>by cases hm),(fun m hm=>by cases hm)⟩,h1,aa,aa,aa,aa,Nat.zero_le _⟩
 obtain ⟨X,hX⟩:∃X:Img,X=⟨d,⟨20,8⟩,⟨1,0⟩,[],false⟩:=⟨_,rfl⟩
 rw [← hX] at hx h9 ⊢
 have h10:zj7 X.disk:=by rw [hX];exact h8
 have h11:X.broken=false:=by rw [hX]
 refine fbod Tryz.func92 Tryz.ntmps92 (fun base=>?_)
 refine' walkW (zaB h3 h4 h6 h7 hg) (za zbe <| za zpa <| za zbd <| za zd1 <| za zjb <| za znq <| zb _)
 refine ACallAt.le2 (args':= [imgA X]) (by rw [hX];simp only [imgA,AV.leL,AV.le];and_intros<;>first|rfl|trivial) ((zaJ (zpf X hx h10 h11 h9)).mono ?_)
 rintro r h' ⟨rfl,rfl⟩
 simp only [go_sem,aeq,aeq.aeqF,simprocAttr]
 refine' zc fx
@[go_sem] noncomputable def zlE:Ent Tryz.prog 92:= .m1 zV zpg
open Go Go.Proofs
theorem znr (x:Img) (h:DiskOk x.disk) (hc:x.disk.cache= []) (ho:CrOk ⟨x.disk.data,[], -1,false,x.disk.bad⟩):ACall Tryz.prog 40 0 [imgA x,.d (.sl 1 [])] [] (fun r _=>r= .tup [imgA { (cdone ⟨⟨x.disk.data,[], -1,false,x.disk.bad⟩,⟨20,8⟩,⟨1,0⟩,[],false⟩ p0).1 with maps:= [] },.d (.int .i64 0)]):=by
 obtain ⟨d,hd⟩:∃d:Disk,d=⟨x.disk.data,[], -1,false,x.disk.bad⟩:=⟨_,rfl⟩
 rw [← hd] at ho ⊢
 refine fbod Tryz.func40 Tryz.ntmps40 (fun base=>?_)
 refine' walkW fx (za zlC <| za zlE <| zb _)
 ·rw [← hd]
  exact ho
 ·rw [← hd]
theorem zj8:csmall.disk=⟨csmall.disk.data,[], -1,false,csmall.disk.bad⟩:=aF
theorem zwN:CrOk csmall.disk where
 disk:=csmall_ok.disk
 head:=aF
 size:=aF
 jour:=by unfold zqn;decide+kernel
 fl:=aF
 root:=aF
 maps:=by unfold zj7;decide+kernel
 done:=aF
end Go.Aw
