/-
  Parts of the proof: TabB, TabC, TabD (short names; the readable texts lie in the repo, under wip).
-/
import Derived.Test.YtgkjmbopnaeanaaGreatPart22
set_option maxRecDepth 100000
set_option maxHeartbeats 2000000
set_option linter.unusedSimpArgs false
set_option linter.unusedVariables false
namespace Go.Aw
open Go Go.Proofs
theorem zwE (k:Int) (_:True):AC 251 [.d (.int .i64 k)] (.d (.bool (!zV k))):=by
 refine bod Tryz.func251 Tryz.ntmps251 (fun base=>?_)
 refine' zc @zct
@[go_sem] noncomputable def zdd:Ent Tryz.prog 251:= .m1 (intT .i64) zwE
theorem zsA (x:Ent2) (_:True):AC 216 [entA x] (.d (.bool (entOk x))):=by
 refine bod Tryz.func216 Tryz.ntmps216 (fun base=>?_)
 refine' walkW fx (za zdd <| za zck <| zb _)
 all_goals simp_all [entOk]
@[go_sem] noncomputable def zcW:Ent Tryz.prog 216:= .m1 zfU zsA
theorem zsB (t i:Int) (_:True):AC 215 [.d (.int .i64 t),.d (.int .i64 i)] (.tup [.d (.int .i64 (if eRef t i then 0 else 96+2*t+i / 8)),.d (.int .i64 (if eRef t i then 0 else i % 8*8)),.d (.int .i64 (if eRef t i then 10 else 0))]):=by
 refine bod Tryz.func215 Tryz.ntmps215 (fun base=>?_)
 cases hr:eRef t i with
 |true=>
  have hdec:(!zV t||decide (i<0)||decide (16≤i))=true:=hr
  refine' walkW hdec (za zdd <| za zck <| zb _)
 |false=>
  have hdec:(!zV t||decide (i<0)||decide (16≤i))=false:=hr
  obtain ⟨⟨ht0,ht1⟩,hi0,hi1⟩:=zil hr
  have hw0:IntKind.i64.wrap (i*8)=i*8:=ze (by omega) (by omega)
  have hw1:IntKind.i64.wrap ((i*8).tdiv 64)=i / 8:=by rw [Int.tdiv_eq_ediv_of_nonneg (by omega),ze (by omega) (by omega)];omega
  have hw2:IntKind.i64.wrap (96+2*t+i / 8)=96+2*t+i / 8:=ze (by omega) (by omega)
  have hw3:(i*8).tmod 64=i % 8*8:=by rw [Int.tmod_eq_emod_of_nonneg (by omega)];omega
  refine' walkW (zaH hdec hw0 hw1 hw2 hw3) (za zdd <| za zck <| zb _)
@[go_sem] noncomputable def zcX:Ent Tryz.prog 215:= .m2 (intT .i64) (intT .i64) zsB
theorem zl0:∀k<3,∀l<256,putN (k*72057594037927936+l) 8= [UInt8.ofNat k,0,0,0]++putN l 4:=by decide+kernel
theorem zsC:∀k<3,∀l<256,ibits .or .u64 (ishl .u64 ((k:Nat):Int) 56) ((l:Nat):Int)=((k*72057594037927936+l:Nat):Int):=by decide+kernel
theorem zqu (x:Ent2) (h:entOk x=true):AC 262 [entA x] (.d (.str (zea x))):=by
 refine fbod Tryz.func262 Tryz.ntmps262 (fun base=>?_)
 obtain ⟨hk,ha0,ha1⟩:=zen h
 obtain ⟨kind,loc⟩:=x
 simp only at hk ha0 ha1
 obtain ⟨k,rfl⟩:∃k:Nat,kind=k:=⟨kind.toNat,by omega⟩
 obtain ⟨l,rfl⟩:∃l:Nat,loc=l:=⟨loc.toNat,by omega⟩
 have h1:=zl0 k (by omega) l (by omega)
 have h2:=zsC k (by omega) l (by omega)
 have hw1:IntKind.u64.wrap (k:Int)=k:=zT (by omega) (by omega)
 have hw2:IntKind.u64.wrap (l:Int)=l:=zT (by omega) (by omega)
 refine' walkW (zq hw1 hw2 h2 @zjC natC h1) (za zbH <| zb _)
 rfl
@[go_sem] noncomputable def zcv:Ent Tryz.prog 262:= .m1 zfU zqu
theorem zuJ (n:Nat):ishr .u64 (n:Int) 56=((n / 72057594037927936:Nat):Int):=by
 unfold ishr
 rw [show min ((56:Int).toNat) IntKind.u64.bits=56 from rfl]
 rw [Int.fdiv_eq_ediv_of_nonneg _ (by decide)]
 norm_cast
theorem zuK (n:Nat) (hn:n<18446744073709551616):ibits .and .u64 (n:Int) 72057594037927935=((n % 72057594037927936:Nat):Int):=by
 show IntKind.u64.wrap (((BitVec.ofInt 64 (n:Int)&&& BitVec.ofInt 64 72057594037927935).toNat:Nat):Int)=_
 have h2:BitVec.ofInt 64 72057594037927935=BitVec.ofNat 64 72057594037927935:=by decide
 rw [h2,BitVec.ofInt_natCast,BitVec.toNat_and,BitVec.toNat_ofNat,BitVec.toNat_ofNat]
 rw [Nat.mod_eq_of_lt (by omega),show 72057594037927935 % 2 ^ 64=2 ^ 56 - 1 by decide,Nat.and_two_pow_sub_one_eq_mod,zT (by omega) (by omega)]
theorem znN (e f g h:UInt8):putN (takeN [e,f,g,h]) 4= [e,f,g,h]:=by
 simp only [takeN,putN,List.foldl,List.nil_append,List.cons_append]
 have:=e.toNat_lt;have:=f.toNat_lt;have:=g.toNat_lt;have:=h.toNat_lt
 have key:∀ (n:Nat) (c:UInt8),n % 256=c.toNat→UInt8.ofNat n=c:=fun n c hh=>by
  apply UInt8.toNat_inj.1
  rw [UInt8.toNat_ofNat']
  simpa using hh
 rw [key _ e (by omega),key _ f (by omega),key _ g (by omega),key _ h (by omega)]
theorem zuL (s:Txt) (hs:s.length=8):entT s=if entOk ⟨((takeN s / 72057594037927936:Nat):Int),((takeN s % 72057594037927936:Nat):Int)⟩=true then (⟨((takeN s / 72057594037927936:Nat):Int),((takeN s % 72057594037927936:Nat):Int)⟩,0) else (⟨0,0⟩,14):=by
 match s,hs with
 | [a,b,c,d,e,f,g,h],_=>
  obtain ⟨L,hL⟩:∃L,L=takeN [e,f,g,h]:=⟨_,rfl⟩
  have hL4:L<4294967296:=by
   have h1:=zd6 (l:= [e,f,g,h]) (i:=4) (by simp)
   have h2:256 ^ 4=4294967296:=by decide
   omega
  have hpt:putN L 4= [e,f,g,h]:=by rw [hL];exact znN e f g h
  have ha:=a.toNat_lt;have hb:=b.toNat_lt;have hc:=c.toNat_lt;have hd:=d.toNat_lt
  have hn:takeN [a,b,c,d,e,f,g,h]=((a.toNat*256+b.toNat)*256+c.toNat)*256*4294967296+d.toNat*4294967296+L:=by
   rw [hL]
   simp only [takeN,List.foldl]
   omega
  rw [hn]
  have h1:(((a.toNat*256+b.toNat)*256+c.toNat)*256*4294967296+d.toNat*4294967296+L) / 72057594037927936=a.toNat:=by omega
  have h2:(((a.toNat*256+b.toNat)*256+c.toNat)*256*4294967296+d.toNat*4294967296+L) % 72057594037927936=(b.toNat*256+c.toNat)*256*4294967296+d.toNat*4294967296+L:=by omega
  rw [h1,h2]
  have he:entOf [a,b,c,d,e,f,g,h]=⟨(a.toNat:Int),(L:Int)⟩:=by rw [hL];rfl
  have hby:zea ⟨(a.toNat:Int),(L:Int)⟩= [a,0,0,0,e,f,g,h]:=by
   rw [zea]
   simp only [Int.toNat_natCast,hpt]
   rw [show UInt8.ofNat a.toNat=a by simp]
   rfl
  rw [entT,he,hby]
  by_cases hz:b=0∧c=0∧d=0
  ·obtain ⟨rfl,rfl,rfl⟩:=hz
   simp only [UInt8.toNat_zero,Nat.zero_mul,Nat.zero_add]
   cases hk:entOk ⟨(a.toNat:Int),(L:Int)⟩<;>simp
  ·have hne:([a,0,0,0,e,f,g,h]:Txt)≠ [a,b,c,d,e,f,g,h]:=by
    intro hh
    simp only [List.cons.injEq,true_and] at hh
    exact hz ⟨hh.1.symm,hh.2.1.symm,hh.2.2.1.symm⟩
   rw [if_pos (.inr hne),if_neg]
   intro hk
   obtain ⟨_,_,hlt⟩:=zen hk
   simp only at hlt
   apply hz
   have hb0:b.toNat=0∧c.toNat=0∧d.toNat=0:=by omega
   exact ⟨UInt8.toNat_inj.1 hb0.1,UInt8.toNat_inj.1 hb0.2.1,UInt8.toNat_inj.1 hb0.2.2⟩
open Go Go.Proofs
theorem zwF (d:Disk) (p:Plan) (t i:Int) (h:DP d p):AC 183 [diskA d,planA p,.d (.int .i64 t),.d (.int .i64 i)] (.tup [entA (eget d p t i).1,.d (.int .i64 (eget d p t i).2)]):=by
 refine fbod Tryz.func183 Tryz.ntmps183 (fun base=>?_)
 have h1:=h.dok
 have h2:=h.pok
 have h3:=h.plen
 by_cases hr:eRef t i=true
 ·refine' walkW (zk hr @if_true.{1}) (za zcX <| za zaE <| za zca <| za zcW <| za zcv <| za zbu <| zb _)
  rw [eget,if_pos hr]
 have hr:eRef t i=false:=by simpa using hr
 have hif:∀ (a b:Int),(if eRef t i=true then a else b)=b:=fun a b=>by rw [if_neg (by rw [hr];exact Bool.false_ne_true)]
 obtain ⟨⟨ht0,ht1⟩,hi0,hi1⟩:=zil hr
 obtain ⟨A,hA⟩:∃A,A=96+2*t+i / 8:=⟨_,rfl⟩
 have hrg0:eget d p t i=if (plook d p A).2≠0 then (⟨0,0⟩,(plook d p A).2) else entT (((plook d p A).1.take (i % 8*8+8).toNat).drop (i % 8*8).toNat):=by
  rw [eget,if_neg (by rw [hr];exact Bool.false_ne_true),hA]
 by_cases he:(plook d p A).2=0
 ·have hb:((plook d p A).2 !=0)=false:=by simpa using he
  have h64:=zeG h he
  rw [if_neg (by simpa using he)] at hrg0
  obtain ⟨S,hS⟩:∃S,S=((plook d p A).1.drop (i % 8*8).toNat).take 8:=⟨_,rfl⟩
  have hS2:((plook d p A).1.take (i % 8*8+8).toNat).drop (i % 8*8).toNat=S:=by
   rw [List.drop_take,hS,show (i % 8*8+8).toNat - (i % 8*8).toNat=8 by omega]
  rw [hS2] at hrg0
  have hSl:S.length=8:=by rw [hS,List.length_take,List.length_drop];omega
  rw [zuL S hSl] at hrg0
  have hnl:=zd6 (l:=S) (i:=8) (by omega)
  have ht8:=zfc (s:=(plook d p A).1.drop (i % 8*8).toNat) (z:=8) 8 rfl (by omega) (by omega) (by rw [List.length_drop];omega)
  rw [← hS] at ht8
  obtain ⟨n,hn⟩:∃n,n=takeN S:=⟨_,rfl⟩
  rw [← hn] at ht8 hrg0 hnl
  have hsh:=zuJ n
  have had:=zuK n (by omega)
  have hw1:IntKind.i64.wrap ((n / 72057594037927936:Nat):Int)=((n / 72057594037927936:Nat):Int):=ze (by omega) (by omega)
  have hw2:IntKind.i64.wrap ((n % 72057594037927936:Nat):Int)=((n % 72057594037927936:Nat):Int):=ze (by omega) (by omega)
  have hld:((plook d p A).1.drop (i % 8*8).toNat).length≤64:=by rw [List.length_drop];omega
  have htk:List.take (plook d p A).1.length (plook d p A).1=(plook d p A).1:=List.take_length
  obtain ⟨x,hx⟩:∃x:Ent2,x=⟨((n / 72057594037927936:Nat):Int),((n % 72057594037927936:Nat):Int)⟩:=⟨_,rfl⟩
  rw [← hx] at hrg0
  have hx1:((n / 72057594037927936:Nat):Int)=x.kind:=by rw [hx]
  have hx2:((n % 72057594037927936:Nat):Int)=x.loc:=by rw [hx]
  rw [hx1] at hw1 hsh
  rw [hx2] at hw2 had
  refine' walkW (zq hif hA.symm hb ht8 htk (zS hsh had hw1 hw2)) (za zcX <| za zaE <| za zca <| za zcW <| za zcv <| za zbu <| zb _)
  all_goals (rw [hrg0];simp_all;done)
 ·have hb:((plook d p A).2 !=0)=true:=by simpa using he
  rw [if_pos he] at hrg0
  refine' walkW (zr hif hA.symm hb) (za zcX <| za zaE <| za zca <| za zcW <| za zcv <| za zbu <| zb _)
  rw [hrg0]
@[go_sem] noncomputable def zcd:Ent Tryz.prog 183:= .m4 zA zN (intT .i64) (intT .i64) zwF
theorem zwG (d:Disk) (p:Plan) (t i:Int) (x:Ent2) (h:DP d p):AC 236 [diskA d,planA p,.d (.int .i64 t),.d (.int .i64 i),entA x] (.tup [planA (eset d p t i x).1,.d (.int .i64 (eset d p t i x).2)]):=by
 refine fbod Tryz.func236 Tryz.ntmps236 (fun base=>?_)
 have h1:=h.dok
 have h2:=h.puts
 have h3:=h.p
 by_cases hr:eRef t i=true
 ·refine' walkW (zk hr @if_true.{1}) (za zcX <| za zaE <| za zca <| za zcW <| za zcv <| za zbu <| zb _)
  rw [eset,if_pos hr]
 have hr:eRef t i=false:=by simpa using hr
 have hif:∀ (a b:Int),(if eRef t i=true then a else b)=b:=fun a b=>by rw [if_neg (by rw [hr];exact Bool.false_ne_true)]
 obtain ⟨⟨ht0,ht1⟩,hi0,hi1⟩:=zil hr
 by_cases hx:entOk x=true
 ·have hl:=zho x
  refine' walkW (zr hif hx hl) (za zcX <| za zaE <| za zca <| za zcW <| za zcv <| za zbu <| zb _)
  rw [eset,if_neg (by rw [hr];exact Bool.false_ne_true),if_neg (by rw [hx];exact fun h=>by cases h)]
 ·have hx:entOk x=false:=by simpa using hx
  refine' walkW (zk hif hx) (za zcX <| za zaE <| za zca <| za zcW <| za zcv <| za zbu <| zb _)
  rw [eset,if_neg (by rw [hr];exact Bool.false_ne_true),if_pos hx]
@[go_sem] noncomputable def zde:Ent Tryz.prog 236:= .m5 zA zN (intT .i64) (intT .i64) zfU zwG
theorem zuM (d:Disk) (p:Plan) (l1 g:Int) (h:DP d p):AC 148 [diskA d,planA p,.d (.int .i64 l1),.d (.int .i64 g)] (.tup [entA (elook d p l1 g).1,.d (.int .i64 (elook d p l1 g).2)]):=by
 refine fbod Tryz.func148 Tryz.ntmps148 (fun base=>?_)
 by_cases hg:g<0∨64≤g
 ·have hdec:(decide (g<0)||decide (64≤g))=true:=by simpa using hg
  refine' walkW hdec (za zcd <| zb _)
  rw [elook,if_pos hg]
 ·have hdec:(decide (g<0)||decide (64≤g))=false:=by simpa using hg
  have hw1:IntKind.i64.wrap (g.tdiv 16)=g / 16:=by rw [Int.tdiv_eq_ediv_of_nonneg (by omega),ze (by omega) (by omega)]
  have hw2:g.tmod 16=g % 16:=Int.tmod_eq_emod_of_nonneg (by omega)
  refine' walkW (zr hdec hw1 hw2) (za zcd <| zb _)
  all_goals (rw [elook,if_neg hg];by_cases e1:(eget d p l1 (g / 16)).2=0<;>by_cases e2:(eget d p l1 (g / 16)).1.kind=2<;>by_cases e3:(eget d p l1 (g / 16)).1.kind=0<;>simp_all;done)
@[go_sem] noncomputable def zB:Ent Tryz.prog 148:= .m4 zA zN (intT .i64) (intT .i64) zuM
open Go Go.Proofs
theorem zqv (p:Plan) (i:Int) (_:True):AC 259 [planA p,.d (.int .i64 i)] (.tup [.d (.str z64),.d (.int .i64 0)]):=by
 refine bod Tryz.func259 Tryz.ntmps259 (fun base=>?_)
 refine' walkW fx (za zah <| za zck <| za zaE <| zb _)
 rfl
@[go_sem] noncomputable def zbM:Ent Tryz.prog 259:= .m2 zN (intT .i64) zqv
theorem zsD (q:Plan) (i:Int) (d:Disk) (a:Int) (hd:DiskOk d) (hq:PlanOk q) (hl:q.targets.length=q.texts.length) (h0:0≤a) (h1:a<256) (h2:0≤i) (h3:i<2):ACall Tryz.prog 261 0 [planA q,.d (.int .i64 i),.dp (diskC d),.dp [.d (.int .i64 a)]] [] (fun r _=>r= .tup [.d (.str (plook d q (96+2*a+i)).1),.d (.int .i64 (plook d q (96+2*a+i)).2)]):=by
 refine bod Tryz.func261 Tryz.ntmps261 (fun base=>?_)
 have hw1:IntKind.i64.wrap (96+2*a+i)=96+2*a+i:=ze (by omega) (by omega)
 refine' walkW hw1 (za zah <| za zck <| za zaE <| zb _)
@[go_sem] noncomputable def zcl:Ent Tryz.prog 261:= .ofL (consL zN (consL (intT .i64) (consL zrI (consL (dpT (consL (intT .i64) nilL) (fun p=>p) (fun p=>p) (fun _=>rfl)) nilL)))) (fun (q,i,d,(a,_),_)=>(DiskOk d)∧(PlanOk q)∧(q.targets.length=q.texts.length)∧(0≤a)∧(a<256)∧(0≤i)∧(i<2)) (fun (q,i,d,(a,_),_)=> .tup [.d (.str (plook d q (96+2*a+i)).1),.d (.int .i64 (plook d q (96+2*a+i)).2)]) (fun (q,i,d,(a,_),_) hp=>⟨rfl,zsD q i d a hp.1 hp.2.1 hp.2.2.1 hp.2.2.2.1 hp.2.2.2.2.1 hp.2.2.2.2.2.1 hp.2.2.2.2.2.2⟩)
theorem zsE (p:Plan) (t:Int) (hp:pfit p=true) (ht0:0≤t) (ht1:t<256):ACall Tryz.prog 258 0 [planA p,.d (.int .i64 t),.fn (.func 259) [] []] [] (fun r _=>r= .tup [planA (zbI p t (fun _ _=>(z64,0)) 2 0 p).1,.d (.int .i64 (zbI p t (fun _ _=>(z64,0)) 2 0 p).2)]):=by
 refine fbod Tryz.func258 Tryz.ntmps258 (fun base=>?_)
 obtain ⟨f,hf⟩:∃f:Plan→Int→Txt×Int,f=fun _ _=>(z64,0):=⟨_,rfl⟩
 rw [← hf]
 refine' walkW fx (za zbM <| za zcl <| za zck <| za zda <| zb _)
 refine zo (fun q: { q:Nat×Plan // q.1≤2∧pfit q.2=true∧zbI p t f 2 0 p=zbI p t f (2 - q.1) q.1 q.2 } =>⟨[(1,true,.d (.int .i64 t)),(2,true,.fn (.func 259) [] []),(3,true,.vp 0 0),(6,true,.vp 1 0),(8,true,.vp 2 0),(13,true,.d (.int .i64 q.1.1))],[(2,(.var [.d (.sl 1 (q.1.2.targets.map intD)),.d (.sl 1 (q.1.2.texts.map strD))])),(1,.var [.nils 1,.nils 1]),(0,(.var [.d (.sl 1 (p.targets.map intD)),.d (.sl 1 (p.texts.map strD))]))],some []⟩) (fun q=>2 - q.1.1) ⟨(0,p),Nat.zero_le 2,hp,rfl⟩ le1 (fun q=>?_)
 obtain ⟨⟨i,q⟩,hi,hq,hf2⟩:=q
 simp only at hi hq hf2 ⊢
 have hqo:=PlanOk.of hq
 obtain ⟨hql,hq24,_⟩:=zaJ hq
 rcases Nat.lt_or_ge i 2 with hlt|hge
 ·have hcmp:decide ((i:Int)<2)=true:=decide_eq_true (by omega)
  have hwi:=zn (i:=i) (by omega)
  have hw1:IntKind.i64.wrap (96+2*t+(i:Int))=96+2*t+i:=ze (by omega) (by omega)
  rw [zfE p t f i q hlt] at hf2
  have hf0:f q i=(z64,0):=by rw [hf]
  simp only [hf0] at hf2
  rw [if_neg (show ¬(0:Int)≠0 by decide)] at hf2
  refine' walkW (zk hcmp hw1) (za zbM <| za zcl <| za zck <| za zda <| zb _)
  ·have hc:(pset q (96+2*t+i) z64).2≠0:=by simpa using hc
   rw [hf2,if_pos hc]
  ·have hc:¬(pset q (96+2*t+i) z64).2≠0:=by simpa using hc
   rw [if_neg hc] at hf2
   exact ⟨⟨(i+1,(pset q (96+2*t+i) z64).1),by omega,zd8 hq,hf2⟩,lew,by simp;omega⟩
 ·have hcmp:decide ((i:Int)<2)=false:=decide_eq_false (by omega)
  refine' walkW hcmp (za zbM <| za zcl <| za zck <| za zda <| zb _)
  rw [hf2,show 2 - i=0 by omega]
  rfl
@[go_sem] noncomputable def ziu:Ent Tryz.prog 258:= .ofL (consL zN (consL (intT .i64) (consL (fnT 259 nilL) nilL))) (fun (p,t,_,_)=>(pfit p=true)∧(0≤t)∧(t<256)) (fun (p,t,_,_)=> .tup [planA (zbI p t (fun _ _=>(z64,0)) 2 0 p).1,.d (.int .i64 (zbI p t (fun _ _=>(z64,0)) 2 0 p).2)]) (fun (p,t,_,_) hp=>⟨rfl,zsE p t hp.1 hp.2.1 hp.2.2⟩)
theorem zsF (p:Plan) (t:Int) (d:Disk) (a:Int) (h:DP d p) (ht0:0≤t) (ht1:t<256) (h0:0≤a) (h1:a<256):ACall Tryz.prog 258 4 [planA p,.d (.int .i64 t),.fn (.func 261) [] [.vp 0 0,.vp 2 0]] [(3,.var [.nils 1,.nils 1]),(2,.var [.d (.int .i64 a)]),(1,(.var [.d (.sl 1 (p.targets.map intD)),.d (.sl 1 (p.texts.map strD))])),(0,(.var [.d (.str d.data),.d (.sl 2 (d.cache.map putD)),.d (.int .i64 d.fuse),.d (.bool d.off),.d (.sl 1 (d.bad.map intD))]))] (fun r h'=>r= .tup [planA (zbI p t (fun q i=>plook d q (96+2*a+i)) 2 0 p).1,.d (.int .i64 (zbI p t (fun q i=>plook d q (96+2*a+i)) 2 0 p).2)]∧h'= [(3,.var [.nils 1,.nils 1]),(2,.var [.d (.int .i64 a)]),(1,(.var [.d (.sl 1 (p.targets.map intD)),.d (.sl 1 (p.texts.map strD))])),(0,(.var [.d (.str d.data),.d (.sl 2 (d.cache.map putD)),.d (.int .i64 d.fuse),.d (.bool d.off),.d (.sl 1 (d.bad.map intD))]))]):=by
 refine zQ (fun i=>decide (i<4)) ?_
 refine bod Tryz.func258 Tryz.ntmps258 (fun base=>?_)
 have hp:=h.p
 have hdo:=h.dok
 obtain ⟨f,hf⟩:∃f:Plan→Int→Txt×Int,f=fun q i=>plook d q (96+2*a+i):=⟨_,rfl⟩
 rw [← hf]
 refine' walkW fx (za zbM <| za zcl <| za zck <| za zda <| zb _)
 refine zo (fun q: { q:Nat×Plan // q.1≤2∧pfit q.2=true∧zbI p t f 2 0 p=zbI p t f (2 - q.1) q.1 q.2 } =>⟨[(1,true,.d (.int .i64 t)),(2,true,.fn (.func 261) [] [.vp 0 0,.vp 2 0]),(3,true,.vp 4 0),(6,true,.vp 5 0),(8,true,.vp 6 0),(13,true,.d (.int .i64 q.1.1))],[(6,(.var [.d (.sl 1 (q.1.2.targets.map intD)),.d (.sl 1 (q.1.2.texts.map strD))])),(5,.var [.nils 1,.nils 1]),(4,(.var [.d (.sl 1 (p.targets.map intD)),.d (.sl 1 (p.texts.map strD))])),(3,.var [.nils 1,.nils 1]),(2,.var [.d (.int .i64 a)]),(1,(.var [.d (.sl 1 (p.targets.map intD)),.d (.sl 1 (p.texts.map strD))])),(0,(.var [.d (.str d.data),.d (.sl 2 (d.cache.map putD)),.d (.int .i64 d.fuse),.d (.bool d.off),.d (.sl 1 (d.bad.map intD))]))],some []⟩) (fun q=>2 - q.1.1) ⟨(0,p),Nat.zero_le 2,hp,rfl⟩ le1 (fun q=>?_)
 obtain ⟨⟨i,q⟩,hi,hq,hf2⟩:=q
 simp only at hi hq hf2 ⊢
 have hqo:=PlanOk.of hq
 obtain ⟨hql,hq24,_⟩:=zaJ hq
 have hdq:DP d q:=⟨h.d,hq⟩
 rcases Nat.lt_or_ge i 2 with hlt|hge
 ·have hcmp:decide ((i:Int)<2)=true:=decide_eq_true (by omega)
  have hwi:=zn (i:=i) (by omega)
  have hw1:IntKind.i64.wrap (96+2*t+(i:Int))=96+2*t+i:=ze (by omega) (by omega)
  rw [zfE p t f i q hlt] at hf2
  have hf0:f q i=plook d q (96+2*a+i):=by rw [hf]
  simp only [hf0] at hf2
  by_cases he:(plook d q (96+2*a+i)).2=0
  ·have hb:((plook d q (96+2*a+i)).2 !=0)=false:=by simpa using he
   have h64:=zeG hdq he
   rw [if_neg (by simpa using he)] at hf2
   refine' walkW (zr hcmp hw1 hb) (za zbM <| za zcl <| za zck <| za zda <| zb _)
   ·have hc:(pset q (96+2*t+i) (plook d q (96+2*a+i)).1).2≠0:=by simpa using hc
    rw [if_pos hc] at hf2
    rw [hf2]
   ·have hc:¬(pset q (96+2*t+i) (plook d q (96+2*a+i)).1).2≠0:=by simpa using hc
    rw [if_neg hc] at hf2
    exact ⟨⟨(i+1,(pset q (96+2*t+i) (plook d q (96+2*a+i)).1).1),by omega,zd8 hq,hf2⟩,lew,by simp;omega⟩
  ·have hb:((plook d q (96+2*a+i)).2 !=0)=true:=by simpa using he
   rw [if_pos (by simpa using he)] at hf2
   refine' walkW (zk hcmp hb) (za zbM <| za zcl <| za zck <| za zda <| zb _)
   rw [hf2]
 ·have hcmp:decide ((i:Int)<2)=false:=decide_eq_false (by omega)
  refine' walkW hcmp (za zbM <| za zcl <| za zck <| za zda <| zb _)
  rw [hf2,show 2 - i=0 by omega]
  rfl
theorem zsG (p:Plan) (t:Int) (hp:pfit p=true):AC 229 [planA p,.d (.int .i64 t)] (.tup [planA (eblank p t).1,.d (.int .i64 (eblank p t).2)]):=by
 refine fbod Tryz.func229 Tryz.ntmps229 (fun base=>?_)
 by_cases hk:zV t=true
 ·obtain ⟨ht0,ht1⟩:=hostOk_iff.1 hk
  have hbl:eblank p t=zbI p t (fun _ _=>(z64,0)) 2 0 p:=by rw [eblank,if_neg (by rw [hk];exact fun h=>by cases h)]
  refine' walkW hk (za zdd <| za ziu <| zb _)
  rw [hbl]
 ·have hk:zV t=false:=by simpa using hk
  refine' walkW hk (za zdd <| za ziu <| zb _)
  rw [eblank,if_pos hk]
@[go_sem] noncomputable def zbN:Ent Tryz.prog 229:= .m2 zN (intT .i64) zsG
theorem zuN (d:Disk) (p:Plan) (a t:Int) (h:DP d p):AC 232 [diskA d,planA p,.d (.int .i64 a),.d (.int .i64 t)] (.tup [planA (ecopy d p a t).1,.d (.int .i64 (ecopy d p a t).2)]):=by
 refine fbod Tryz.func232 Tryz.ntmps232 (fun base=>?_)
 by_cases hk:zV a=false∨zV t=false
 ·have hdec:(!zV a|| !zV t)=true:=by simpa using hk
  refine' walkW hdec (za zdd <| zb _)
  rw [ecopy,if_pos hk]
 ·have hdec:(!zV a|| !zV t)=false:=by simpa using hk
  have hcp:ecopy d p a t=zbI p t (fun q i=>plook d q (96+2*a+i)) 2 0 p:=by rw [ecopy,if_neg hk]
  simp only [not_or,Bool.not_eq_false] at hk
  obtain ⟨ha0,ha1⟩:=hostOk_iff.1 hk.1
  obtain ⟨ht0,ht1⟩:=hostOk_iff.1 hk.2
  refine' walkW (zr hdec hk.1 hk.2) (za zdd <| zb _)
  refine ((zsF p t d a h ht0 ht1 ha0 ha1).whole (z2 rfl) (by omega) (by rintro r h' ⟨_,rfl⟩ i hi;exact hi)).mono ?_
  rintro r h' ⟨rfl,rfl⟩
  simp only [go_sem,aeq,aeq.aeqF,simprocAttr]
  refine' walkW fx (za zdd <| zb _)
  rw [hcp]
@[go_sem] noncomputable def zcw:Ent Tryz.prog 232:= .m4 zA zN (intT .i64) (intT .i64) zuN
end Go.Aw
