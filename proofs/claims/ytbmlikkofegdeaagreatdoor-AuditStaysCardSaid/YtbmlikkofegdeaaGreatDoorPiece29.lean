/-
  Parts of the proof: RootD, PointD, PointE (short names; the readable texts lie in the repo, under wip).
-/
import Derived.Test.YtbmlikkofegdeaaGreatDoorPiece28
import Derived.Test.YtbmlikkofegdeaaGreatDoorPiece17
import Derived.Test.YtbmlikkofegdeaaGreatDoorPiece24
import Derived.Test.YtbmlikkofegdeaaGreatDoorPiece26
import Derived.Test.YtbmlikkofegdeaaGreatDoorPiece21
set_option maxRecDepth 100000
set_option maxHeartbeats 2000000
set_option linter.unusedSimpArgs false
set_option linter.unusedVariables false
namespace Go.Aw
open Go Go.Proofs
def cutL (s:Txt):Txt:=s.dropWhile (· ==0)
theorem zvS (s:Txt) (hs:s.length<=9223372036854775807):ACall Tryz.prog 292 0 [.d (.str s),.d (.int .u8 0)] [] (λr _=>r= .d (.str (cutL s))):=by
 refine fbod Tryz.func292 Tryz.ntmps292 (λbase=>?_);refine' zc fx;refine zq (λq: { t:Txt // t.length<=s.length/\cutL s=cutL t } =>⟨[(0,true,.d (.str q.1)),(1,true,.d (.int .u8 0))],[],some []⟩) (λq=>q.1.length) ⟨s,Nat.le_refl _,rfl⟩ le0 (λq=>?_);obtain ⟨t,hl,hf⟩:=q;simp only at hl hf ⊢;cases t with
 |nil=>
  have h0:decide ((0:Int)<(([]:Txt).length:Int))=false:=rfl;refine' zc h0;rw [hf];rfl
 | cons c t=>
  have h0:decide ((0:Int)<((t.length+1:Nat):Int))=true:=decide_eq_true (by omega);have h1:List.drop 1 (c::t)=t:=rfl;have hg0:List.getD (c::t) 0 0=c:=rfl;simp only [List.length_cons] at hl;by_cases hz:c=0
  ·have hz2:((c.toNat:Int)==0)=true:=by rw [hz];rfl
   refine' zc (zah h0 h1 hg0 hz2);all_goals first|omega|skip
   exact ⟨⟨t,by omega,by rw [hf,hz];simp [cutL,List.dropWhile_cons]⟩,by simp only [AS.le,leT,leH,zf,AsgK,AV.le,AV.leL,AObj.le,inH,idsT,idsH,AV.ids,AV.idsL,AV.idsR,AObj.ids,lk,hget,go_sem,aeq,aeq.aeqF,simprocAttr],by simp⟩
  ·have hz2:((c.toNat:Int)==0)=false:=by rw [beq_eq_false_iff_ne];intro h;exact hz (UInt8.toNat_inj.1 (by simpa using h))
   refine' zc (zah h0 h1 hg0 hz2);have hcb:(c==0)=false:=by simpa using hz
   rw [hf,cutL,List.dropWhile_cons,hcb];rfl
@[go_sem] noncomputable def zf7:Ent Tryz.prog 292:= .ofL (consL strT (consL (zew (.d (.int .u8 0))) nilL)) (λ(s,_,_)=>s.length<=9223372036854775807) (λ(s,_,_)=> .d (.str (cutL s))) (λ(s,_,_) hp=>⟨rfl,zvS s hp⟩)
theorem zvT (s:Txt) (hs:s.length<=9223372036854775807):ACall Tryz.prog 293 0 [.d (.str s),.d (.int .u8 0)] [] (λr _=>r= .d (.str (cutZ s))):=by
 refine fbod Tryz.func293 Tryz.ntmps293 (λbase=>?_);refine' zc fx;refine zq (λq: { t:Txt // t.length<=s.length/\cutZ s=cutZ t } =>⟨[(0,true,.d (.str q.1)),(1,true,.d (.int .u8 0))],[],some []⟩) (λq=>q.1.length) ⟨s,Nat.le_refl _,rfl⟩ le0 (λq=>?_);obtain ⟨t,hl,hf⟩:=q;simp only at hl hf ⊢;rcases List.eq_nil_or_concat t with rfl|⟨u,c,rfl⟩
 ·have h0:decide ((0:Int)<(([]:Txt).length:Int))=false:=rfl;refine' zc h0;rw [hf];rfl
 ·rw [List.concat_eq_append] at hl hf ⊢;have hln:(u++ [c]).length=u.length+1:=by simp
  have h0:decide ((0:Int)<((u.length+1:Nat):Int))=true:=decide_eq_true (by omega);have hw:IntKind.i64.wrap (((u.length+1:Nat):Int) - 1)=(u.length:Int):=by rw [zg (by omega) (by omega)];omega
  have h1:List.take u.length (u++ [c])=u:=by simp
  have hg0:List.getD (u++ [c]) u.length 0=c:=by simp
  by_cases hz:c=0
  ·have hz2:((c.toNat:Int)==0)=true:=by rw [hz];rfl
   refine' zc (zL hln h0 hw natC h1 (zn hg0 hz2));all_goals first|omega|skip
   exact ⟨⟨u,by omega,by rw [hf,hz,zgL]⟩,by simp only [AS.le,leT,leH,zf,AsgK,AV.le,AV.leL,AObj.le,inH,idsT,idsH,AV.ids,AV.idsL,AV.idsR,AObj.ids,lk,hget,go_sem,aeq,aeq.aeqF,simprocAttr],by simp⟩
  ·have hz2:((c.toNat:Int)==0)=false:=by rw [beq_eq_false_iff_ne];intro h;exact hz (UInt8.toNat_inj.1 (by simpa using h))
   refine' zc (zL hln h0 hw natC h1 (zn hg0 hz2));all_goals first|omega|skip
   rw [hf,zfT _ _ hz]
@[go_sem] noncomputable def zf8:Ent Tryz.prog 293:= .ofL (consL strT (consL (zew (.d (.int .u8 0))) nilL)) (λ(s,_,_)=>s.length<=9223372036854775807) (λ(s,_,_)=> .d (.str (cutZ s))) (λ(s,_,_) hp=>⟨rfl,zvT s hp⟩)
theorem zpY (s:Txt):(cutZ s).length<=s.length:=by have h:∀l:Txt,(l.dropWhile (· ==0)).length<=l.length:=λl=>List.IsSuffix.length_le (List.dropWhile_suffix _);unfold cutZ;rw [List.length_reverse];refine Nat.le_trans (h _) ?_;rw [List.length_reverse];exact Nat.le_refl _
theorem zxC (s:Txt) (hs:s.length<=9223372036854775807):ACall Tryz.prog 270 0 [.d (.str s),.d (.str [0])] [] (λr _=>r= .d (.str (cutL (cutZ s)))):=by
 refine fbod Tryz.func270 Tryz.ntmps270 (λbase=>?_);have hcl:=zpY s;cases s with
 |nil=>
  refine' walkW fx (za zf7 <| za zf8 <| zb _);rfl
 |cons c s=>
  have hb:(c::s==([]:Txt))=false:=rfl;have hb2:(([0]:Txt)==([]:Txt))=false:=rfl;refine' walkW (zn hb hb2) (za zf7 <| za zf8 <| zb _);all_goals first|omega|decide|rfl|(simp only [List.length_cons] at hs;omega)|skip
@[go_sem] noncomputable def zeJ:Ent Tryz.prog 270:= .ofL (consL strT (consL (zew (.d (.str [0]))) nilL)) (λ(s,_,_)=>s.length<=9223372036854775807) (λ(s,_,_)=> .d (.str (cutL (cutZ s)))) (λ(s,_,_) hp=>⟨rfl,zxC s hp⟩)
theorem zni (s:Txt) (hs:s.length<=9223372036854775807):ACall Tryz.prog 299 0 [.d (.str s),.d (.str [0])] [] (λr _=>r= .d (.str (cutZ s))):=by
 refine fbod Tryz.func299 Tryz.ntmps299 (λbase=>?_);cases s with
 |nil=>
  refine' walkW fx (za zf7 <| za zf8 <| zb _);rfl
 |cons c s=>
  have hb:(c::s==([]:Txt))=false:=rfl;have hb2:(([0]:Txt)==([]:Txt))=false:=rfl;refine' walkW (zn hb hb2) (za zf7 <| za zf8 <| zb _);all_goals first|omega|decide|rfl|(simp only [List.length_cons] at hs;omega)|skip
@[go_sem] noncomputable def zeq:Ent Tryz.prog 299:= .ofL (consL strT (consL (zew (.d (.str [0]))) nilL)) (λ(s,_,_)=>s.length<=9223372036854775807) (λ(s,_,_)=> .d (.str (cutZ s))) (λ(s,_,_) hp=>⟨rfl,zni s hp⟩)
theorem ztQ (s:Txt) (hs:s.length<=9223372036854775807):AC 271 [.d (.str s)] (.tup [.d (.str (zdY s).1),.d (.int .i64 (zdY s).2)]):=by
 refine fbod Tryz.func271 Tryz.ntmps271 (λbase=>?_);have hcl:=zpY s;by_cases h8:s.length=8
 ·have hb:((s.length:Int) !=8)=false:=by rw [h8];rfl
  have htn:zdY s=if zaq (cutZ s) then (cutZ s,0) else ([],19):=by rw [zdY,if_neg (λh=>h h8)]
  cases hn:zaq (cutZ s) with
  |true=>
   refine' walkW (zn hb hn) (za zeq <| za zfK <| zb _);all_goals first|omega|rw [htn,hn];rfl
  |false=>
   refine' walkW (zn hb hn) (za zeq <| za zfK <| zb _);all_goals first|omega|rw [htn,hn];rfl
 ·have hb:((s.length:Int) !=8)=true:=by simp;omega
  refine' walkW hb (za zeq <| za zfK <| zb _);rw [zdY,if_pos h8]
@[go_sem] noncomputable def zoQ:Ent Tryz.prog 271:= .m1 strT ztQ
theorem ztR (n:Int) (hp:0<=n/\n<=140737488355328):AC 237 [.d (.int .i64 n)] (.d (.str (List.replicate n.toNat 0))):=by obtain ⟨h0,h1⟩:=hp;refine fbod Tryz.func237 Tryz.ntmps237 (λbase=>?_);refine' walkW fx (za zaj <| zb _)
@[go_sem] noncomputable def zjs:Ent Tryz.prog 237:= .m1 (intT .i64) ztR
theorem zoR (b:Txt) (hb:b.length=16):AC 231 [.d (.str b)] (snpA (snpR b)):=by
 refine fbod Tryz.func231 Tryz.ntmps231 (λbase=>?_);have ht4:=zdl (s:=b) (z:=4) 4 rfl (by omega) (by omega) (by omega);have ht2:=zdl (s:=b.drop 4) (z:=2) 2 rfl (by omega) (by omega) (by rw [List.length_drop];omega);have hL2:(List.drop 8 b).length<=9223372036854775807:=by rw [List.length_drop];omega
 have h1:=zcg (l:=b.take 4) (i:=4) (by rw [List.length_take];omega);have h2:=zcg (l:=(b.drop 4).take 2) (i:=2) (by rw [List.length_take];omega);have hu1:IntKind.u32.wrap ((takeN (b.take 4):Nat):Int)=((takeN (b.take 4):Nat):Int):=zfS (by omega) (by omega);have hu2:IntKind.i64.wrap ((takeN ((b.drop 4).take 2):Nat):Int)=((takeN ((b.drop 4).take 2):Nat):Int):=zg (by omega) (by omega);have hz0:List.drop (Int.toNat 0) b=b:=rfl;have hz4:List.drop (Int.toNat 4) b=List.drop 4 b:=rfl;have hln:((b.length:Nat):Int)=16:=by omega
 refine' walkW (zL hz0 hz4 ht4 ht2 hu1 hu2) (za zoQ <| za zft <| zb _);all_goals first|omega|rfl|skip
@[go_sem] noncomputable def zb2:Ent Tryz.prog 231:= .m1 strT zoR
def wsnp (s:Snp):Txt:=if s.id=0/\s.l1=0/\s.name= [] then z16 else putN s.id.toNat 4++putN (IntKind.u64.wrap s.l1).toNat 2++ [0,0]++(nameS s.name).1
theorem ztS {s:Snp} (h:(snpB s).2=true):wsnp s=(snpB s).1:=by
 unfold snpB at h ⊢;unfold wsnp;split
 ·rfl
 rename_i h1;rw [if_neg h1] at h;split
 ·rename_i h2;rw [if_pos h2] at h;cases h
 ·rename_i h2;simp only [not_or,Bool.not_eq_false] at h2;have hk:=hostOk_iff.1 h2.2.2;rw [zad (by omega) (by omega)]
theorem ztT {s:Snp} (h0:0<=s.id) (hz:¬(s.id=0/\s.l1=0/\s.name= [])):(zaq s.name&&decide (0<s.id)&&zG s.l1)=(snpB s).2:=by
 unfold snpB;rw [if_neg hz];split
 ·rename_i h2;rcases h2 with h2|h2|h2
  ·rw [h2];simp
  ·rw [h2];simp
  ·rw [h2];simp
 ·rename_i h2;simp only [not_or,Bool.not_eq_false] at h2;have:0<s.id:=by omega
  simp [h2.2.1,h2.2.2,this]
theorem znj (s:Snp) (hp:0<=s.id/\s.id<=4294967295/\s.name.length<=9223372036854775807):AC 192 [snpA s] (.tup [.d (.str (wsnp s)),.d (.bool (snpB s).2)]):=by
 obtain ⟨h0,h1,hn⟩:=hp;refine fbod Tryz.func192 Tryz.ntmps192 (λbase=>?_);by_cases hz:s.id=0/\s.l1=0/\s.name= []
 ·have hb:(s.id==0&&(s.l1==0&&s.name== []))=true:=by simpa using hz
  have h16:List.replicate (Int.toNat 16) (0:UInt8)=z16:=rfl;refine' walkW (zn hb h16) (za zjs <| za ziI <| za zda <| za zcw <| zb _);rw [wsnp,snpB,if_pos hz,if_pos hz];rfl
 have hb:(s.id==0&&(s.l1==0&&s.name== []))=false:=by rw [Bool.eq_false_iff];simpa using hz
 have hw:IntKind.u64.wrap s.id=s.id:=zad h0 (by omega);have hw2:0<=IntKind.u64.wrap s.l1/\IntKind.u64.wrap s.l1<18446744073709551616:=by rw [IntKind.wrap_u64];omega
 have hp1:=zK s.id.toNat 4;have hp2:=zK (IntKind.u64.wrap s.l1).toNat 2;have hfl:=ztT h0 hz
 have hnz:((nameS s.name).2==0)=zaq s.name:=by
  cases h:zaq s.name with
  |true=>rw [(zeD h).2.1];rfl
  |false=>rw [nameS,if_neg (by rw [h];decide)];rfl
 have hnl:(nameS s.name).1.length<=8:=by
  cases h:zaq s.name with
  |true=>rw [(zeD h).1];exact Nat.le_refl _
  |false=>rw [nameS,if_neg (by rw [h];decide)];exact Nat.zero_le _
 refine' walkW (zL hb hw hnz hfl @ziU @zkn) (za zjs <| za ziI <| za zda <| za zcw <| zb _)
 ·simp only [List.length_append];omega
 ·simp only [List.length_append,List.length_cons,List.length_nil];omega
 ·rw [Bool.not_not,hfl,wsnp,if_neg hz]
@[go_sem] noncomputable def zaA:Ent Tryz.prog 192:= .m1 zhO znj
def sgetA (d:Disk) (p:Plan) (a o:Int):Snp×Int:=
 if (plook d p a).2≠0 then (snp0,(plook d p a).2)
 else if snpOk (((plook d p a).1.take (o+16).toNat).drop o.toNat) then (snpT (((plook d p a).1.take (o+16).toNat).drop o.toNat),0) else (snp0,14)
theorem cutLZ {b:Txt} :(cutL (cutZ b)= [])↔ ∀c∈b,c=0:=by
 have h1:∀l:Txt,l.dropWhile (· ==0)= []↔ ∀c∈l,c=0:=by
  intro l;induction l with
  |nil=>simp
  | cons x l ih=>
   rw [List.dropWhile_cons];by_cases hx:x=0
   ·subst hx;simp [ih]
   ·have:(x==0)=false:=by simpa using hx
    simp [this,hx]
 have h2:∀ (l:Txt) (c:UInt8),c∈l->c≠0->c∈cutZ l:=by
  intro l;induction hn:l.length generalizing l with
  |zero=>intro c hc;rw [List.eq_nil_of_length_eq_zero hn] at hc;cases hc
  | succ n ih=>
   intro c hc h0;rcases List.eq_nil_or_concat l with rfl|⟨u,x,rfl⟩
   ·cases hc
   ·rw [List.concat_eq_append] at hn hc ⊢;by_cases hx:x=0
    ·subst hx;rw [zgL];refine ih u (by simpa using hn) c ?_ h0;rcases List.mem_append.1 hc with h|h
     ·exact h
     ·exact absurd (by simpa using h) h0
    ·rw [zfT _ _ hx];exact hc
 have h3:∀ (l:Txt) (c:UInt8),c∈cutZ l->c∈l:=by intro l c hc;unfold cutZ at hc;rw [List.mem_reverse] at hc;exact List.mem_reverse.1 ((List.dropWhile_suffix _).subset hc)
 unfold cutL;rw [h1];constructor
 ·intro h c hc;refine Classical.byContradiction (λh0=>h0 (h c (h2 _ _ hc h0)))
 ·intro h c hc;exact h c (h3 _ _ hc)
theorem zxD {b:Txt} (h:b.length=16):(cutL (cutZ b)== [])=(b==z16):=by
 rw [Bool.eq_iff_iff,beq_iff_eq,beq_iff_eq,cutLZ];constructor
 ·intro hh;rw [List.eq_replicate_of_mem hh,h];rfl
 ·intro hh c hc;rw [hh] at hc;exact List.eq_of_mem_replicate hc
theorem zrn (d:Disk) (p:Plan) (a:Int) (o:Int) (h:DP d p) (h0:0<=o) (h1:o<=48):ACall Tryz.prog 230 0 [diskA d,planA p,.agg [.d (.int .i64 a),.d (.int .i64 o),.d (.int .i64 16),.fn (.func 192) [] [],.fn (.func 231) [] []]] [] (λr _=>r= .tup [snpA (sgetA d p a o).1,.d (.int .i64 (sgetA d p a o).2)]):=by
 refine fbod Tryz.func230 Tryz.ntmps230 (λbase=>?_);have h2:=h.dok;have h3:=h.pok;have h4:=h.plen;have hw:IntKind.i64.wrap (o+16)=o+16:=zg (by omega) (by omega);obtain ⟨L,hL⟩:∃L,L=plook d p a:=⟨_,rfl⟩
 have hsg:sgetA d p a o=if L.2≠0 then (snp0,L.2) else if snpOk ((L.1.take (o+16).toNat).drop o.toNat) then (snpT ((L.1.take (o+16).toNat).drop o.toNat),0) else (snp0,14):=by rw [sgetA,hL]
 by_cases he:L.2=0
 ·have hb:(L.2 !=0)=false:=by simpa using he
  have h64:=zch h (by rw [<-hL];exact he);rw [<-hL] at h64;rw [if_neg (by simpa using he)] at hsg;obtain ⟨B,hB⟩:∃B,B=(L.1.take (o+16).toNat).drop o.toNat:=⟨_,rfl⟩
  have hB16:B.length=16:=by rw [hB,List.length_drop,List.length_take];omega
  rw [<-hB] at hsg;obtain ⟨T,hT⟩:∃T,T=snpT B:=⟨_,rfl⟩
  obtain ⟨g1,g2,g3,g4,g5⟩:=zlo B;rw [<-hT] at hsg g1 g2 g3 g4 g5;have hBl:B.length<=9223372036854775807:=by omega
  have hok:snpOk B=((snpB T).2&&((snpB T).1==B)):=by rw [snpOk,<-hT]
  have hok2:snpOk B=((snpB T).2&&(wsnp T==B)):=by
   rw [hok];cases hf:(snpB T).2 with
   |true=>rw [ztS hf]
   |false=>rfl
  have hcl:=zxD hB16;refine' zgF (zav 8) (zah hL.symm hb hw hB.symm) (za z2 <| za zeJ <| za zb2 <| za zaA <| zb _)
  ·have hBz:B≠z16:=by
    intro hh;have:(cutL (cutZ B) != [])=false:=by rw [bne,hcl,hh];rfl
    rw [hc] at this;cases this
   have hTR:snpR B=T:=by rw [hT,snpT,if_neg hBz]
   have hTn:T.name.length<=9223372036854775807:=by omega
   have hcd:(!(snpB T).2||wsnp T !=B)= !snpOk B:=by rw [hok2,Bool.not_and];rfl
   cases ho:snpOk B with
   |true=>
    rw [ho] at hcd hsg;refine' walkW (zn hTR hcd) (za z2 <| za zeJ <| za zb2 <| za zaA <| zb _);rw [hsg];rfl
   |false=>
    rw [ho] at hcd hsg;refine' walkW (zn hTR hcd) (za z2 <| za zeJ <| za zb2 <| za zaA <| zb _);rw [hsg];rfl
  ·have hBz:B=z16:=by
    have:(B==z16)=true:=by rw [<-hcl];rw [bne,Bool.not_eq_false'] at hc;exact hc
    simpa using this
   have hT0:T=⟨0,0,[]⟩:=by rw [hT,snpT,if_pos hBz];rfl
   have hcd:(!(snpB T).2||wsnp T !=B)= !snpOk B:=by rw [hok2,Bool.not_and];rfl
   rw [hT0] at hcd hsg;cases ho:snpOk B with
   |true=>
    rw [ho] at hcd hsg;refine' walkW hcd (za z2 <| za zeJ <| za zb2 <| za zaA <| zb _);rw [hsg];rfl
   |false=>
    rw [ho] at hcd hsg;refine' walkW hcd (za z2 <| za zeJ <| za zb2 <| za zaA <| zb _);rw [hsg];rfl
 ·have hb:(L.2 !=0)=true:=by simpa using he
  refine' walkW (zn hL.symm hb) (za z2 <| za zeJ <| za zb2 <| za zaA <| zb _);rw [hsg,if_pos he];rfl
@[go_sem] noncomputable def zdg:Ent Tryz.prog 230:= .ofL (consL zu (consL zw (consL (aggT (consL (intT .i64) (consL (intT .i64) (consL (zew (.d (.int .i64 16))) (consL (fnT 192 nilL) (consL (fnT 231 nilL) nilL))))) (λp=>p) (λp=>p) (λ_=>rfl)) nilL))) (λ(d,p,(a,o,_,_,_,_),_)=>(DP d p)/\(0<=o)/\(o<=48)) (λ(d,p,(a,o,_,_,_,_),_)=> .tup [snpA (sgetA d p a o).1,.d (.int .i64 (sgetA d p a o).2)]) (λ(d,p,(a,o,_,_,_,_),_) hp=>⟨rfl,zrn d p a o hp.1 hp.2.1 hp.2.2⟩)
theorem ztU (i:Int) (hp:0<=i/\i<8):AC 181 [.d (.int .i64 i)] (.agg [.d (.int .i64 (2+i / 4)),.d (.int .i64 (i % 4*16)),.d (.int .i64 16),.fn (.func 192) [] [],.fn (.func 231) [] []]):=by obtain ⟨h0,h1⟩:=hp;refine fbod Tryz.func181 Tryz.ntmps181 (λbase=>?_);have hq:=div4i h0 h1;have hm:i.tmod 4=i % 4:=Int.tmod_eq_emod_of_nonneg h0;have hw1:IntKind.i64.wrap (2+i / 4)=2+i / 4:=zg (by omega) (by omega);have hw2:IntKind.i64.wrap (i % 4*16)=i % 4*16:=zg (by omega) (by omega);refine' zc (zah hq hm hw1 hw2)
@[go_sem] noncomputable def zbR:Ent Tryz.prog 181:= .m1 (intT .i64) ztU
theorem ztV {d:Disk} {p:Plan} {i:Nat} :sgetA d p (2+(i:Int) / 4) ((i:Int) % 4*16)=if (plook d p (2+((i / 4:Nat):Int))).2≠0 then (snp0,(plook d p (2+((i / 4:Nat):Int))).2) else if snpOk (slotB (plook d p (2+((i / 4:Nat):Int))).1 i) then (snpT (slotB (plook d p (2+((i / 4:Nat):Int))).1 i),0) else (snp0,14):=by
 have e1:(2+(i:Int) / 4)=2+((i / 4:Nat):Int):=by omega
 have e2:((i:Int) % 4*16+16).toNat=(i % 4+1)*16:=by omega
 have e3:((i:Int) % 4*16).toNat=i % 4*16:=by omega
 unfold sgetA slotB;rw [e1,e2,e3]
theorem zro (d:Disk) (p:Plan) (h:DP d p):ACall Tryz.prog 180 0 [diskA d,planA p,.d (.int .i64 8),.fn (.func 181) [] []] [] (λr _=>r= .tup [.d (.sl 3 ((snaps d p).1.map snpD)),.d (.int .i64 (snaps d p).2)]):=by
 refine fbod Tryz.func180 Tryz.ntmps180 (λbase=>?_);refine' walkW fx (za zdg <| za zbR <| zb _);refine zds 10 3 rfl ?_;simp only [fresh,top,hget, ↓reduceIte];refine zq (λq: { q:Nat×List Snp // q.1<=8/\q.2.length=q.1/\snaps d p=snapsK d p (8 - q.1) q.1 q.2 } =>⟨[(3,true,.fn (.func 181) [] []),(4,true,.vp 0 0),(5,true,.vp 1 0),(10,true,.osl 2 3 q.1.1 0 q.1.1),(14,true,.d (.int .i64 8)),(15,true,.d (.int .i64 q.1.1))],[(2,.arr 3 (q.1.2.map snpD)),(1,(.var [.d (.sl 1 (p.targets.map intD)),.d (.sl 1 (p.texts.map strD))])),(0,(.var [.d (.str d.data),.d (.sl 2 (d.cache.map putD)),.d (.int .i64 d.fuse),.d (.bool d.off),.d (.sl 1 (d.bad.map intD))]))],some []⟩) (λq=>8 - q.1.1) ⟨(0,[]),Nat.zero_le 8,rfl,rfl⟩ le1 (λq=>?_);obtain ⟨⟨i,l⟩,hi,hll,hf⟩:=q;simp only at hi hll hf ⊢;rcases Nat.lt_or_ge i 8 with hlt|hge
 ·have hcmp:decide ((i:Int)<8)=true:=decide_eq_true (by omega);have hwi:=zr (i:=i) (by omega);have hlm:(l.map snpD).length=i:=by rw [List.length_map,hll]
  have hsg:=ztV (d:=d) (p:=p) (i:=i);rw [zhm hlt,snapsK] at hf;obtain ⟨S,hS⟩:∃S,S=sgetA d p (2+(i:Int) / 4) ((i:Int) % 4*16):=⟨_,rfl⟩
  rw [<-hS] at hsg;by_cases he:(plook d p (2+((i / 4:Nat):Int))).2=0
  ·rw [if_neg (by simpa using he)] at hf hsg;cases ho:snpOk (slotB (plook d p (2+((i / 4:Nat):Int))).1 i) with
   |true=>
    rw [ho,if_pos rfl] at hf hsg;have hb:(S.2 !=0)=false:=by rw [hsg];rfl
    have hf2:snaps d p=snapsK d p (8 - (i+1)) (i+1) (l++ [S.1]):=by rw [hf,hsg]
    refine' walkW (zah hcmp hS.symm hb hlm) (za zdg <| za zbR <| zb _);all_goals first|omega|skip
    exact ⟨⟨(i+1,l++ [S.1]),by omega,by simp [hll],hf2⟩,by simp only [List.map_append];simp only [AS.le,leT,leH,zf,AsgK,AV.le,AV.leL,AObj.le,inH,idsT,idsH,AV.ids,AV.idsL,AV.idsR,AObj.ids,lk,hget,go_sem,aeq,aeq.aeqF,simprocAttr,hwi]<;>and_intros<;>rfl,by simp;omega⟩
   |false=>
    rw [ho,if_neg (by decide)] at hf hsg;have hb:(S.2 !=0)=true:=by rw [hsg];rfl
    refine' walkW (zB hcmp hS.symm hb) (za zdg <| za zbR <| zb _);all_goals first|omega|skip
    rw [hf,hsg];rfl
  ·rw [if_pos he] at hf hsg;have hb:(S.2 !=0)=true:=by rw [hsg];simpa using he
   refine' walkW (zB hcmp hS.symm hb) (za zdg <| za zbR <| zb _);all_goals first|omega|skip
   rw [hf,hsg];rfl
 ·have hcmp:decide ((i:Int)<8)=false:=decide_eq_false (by omega);refine' walkW hcmp (za zdg <| za zbR <| zb _);have him:i=8:=by omega
  subst him;rw [if_pos hll.symm,List.take_of_length_le (by simp;omega),hf];rfl
@[go_sem] noncomputable def znk:Ent Tryz.prog 180:= .ofL (consL zu (consL zw (consL (zew (.d (.int .i64 8))) (consL (fnT 181 nilL) nilL)))) (λ(d,p,_,_,_)=>DP d p) (λ(d,p,_,_,_)=> .tup [.d (.sl 3 ((snaps d p).1.map snpD)),.d (.int .i64 (snaps d p).2)]) (λ(d,p,_,_,_) hp=>⟨rfl,zro d p hp⟩)
theorem zvU (d:Disk) (p:Plan) (h:DP d p):AC 112 [diskA d,planA p] (.tup [.d (.sl 3 ((snaps d p).1.map snpD)),.d (.int .i64 (snaps d p).2)]):=by refine fbod Tryz.func112 Tryz.ntmps112 (λbase=>?_);refine' walkW fx (za znk <| zb _)
@[go_sem] noncomputable def zeK:Ent Tryz.prog 112:= .m2 zu zw zvU
theorem zrp (d:Disk) (p:Plan) (i:Int) (s:Snp) (hp:DP d p/\0<=s.id/\s.id<=4294967295/\s.name.length<=9223372036854775807):AC 125 [diskA d,planA p,.d (.int .i64 i),snpA s] (.tup [planA (setsnap d p i s).1,.d (.int .i64 (setsnap d p i s).2)]):=by
 obtain ⟨h,h0,h1,hn⟩:=hp;refine fbod Tryz.func125 Tryz.ntmps125 (λbase=>?_);have hd1:=h.dok;have hd2:=h.puts;have hd3:=h.p;by_cases hi:i<0\/8<=i
 ·have hdec:(decide (i<0)||decide (8<=i))=true:=by simpa using hi
  refine' walkW hdec (za zaA <| za zbR <| za zaJ <| zb _);rw [setsnap,if_pos hi]
 have hdec:(decide (i<0)||decide (8<=i))=false:=by simpa using hi
 cases ho:(snpB s).2 with
 |false=>
  refine' walkW (zn hdec ho) (za zaA <| za zbR <| za zaJ <| zb _);rw [setsnap,if_neg hi,if_pos ho]
 |true=>
  have hws:=ztS ho;have hbl:(snpB s).1.length<=9223372036854775807:=by have:=zpJ s;omega
  refine' walkW (zB hdec ho hws) (za zaA <| za zbR <| za zaJ <| zb _);all_goals first|omega|skip
  rw [setsnap,if_neg hi,if_neg (by rw [ho];decide)]
@[go_sem] noncomputable def zdh:Ent Tryz.prog 125:= .m4 zu zw (intT .i64) zhO zrp
open Go Go.Proofs
def wkP (q:Plan) (g:Geom) (d:Disk) (e:Int):List AV:= [.d (.sl 1 (q.targets.map intD)),.d (.sl 1 (q.texts.map strD)),.d (.int .i64 g.guest),.d (.int .i64 g.host),.d (.str d.data),.d (.sl 2 (d.cache.map putD)),.d (.int .i64 d.fuse),.d (.bool d.off),.d (.sl 1 (d.bad.map intD)),.d (.int .i64 e)]
attribute [go_sem] wkP
theorem zi7 {fl fl':Nat} {f:FuncId} {caps:List AV} {h:AHeap} {K:AHeap->Prop} {q:Plan} {g:Geom} {d:Disk} {e:Int} (hfl:∀i,(hget h i).isSome->i<fl) (hle:fl'<=fl) (hw:hget h 5=some (.var (wkP q g d e)))
  (hk:∀h',K h'->∀i,(hget h i).isSome->(hget h' i).isSome)
  (h1:e≠0->K h)
  (h2:e=0->ACallAt Tryz.prog fl f caps h (λr h'=>∃q' e',r= .tup [planA q',.d (.int .i64 e')]/\hget h' 5=some (.var (wkP q g d e))/\K (hset h' 5 (.var (wkP q' g d e'))))):
  ACallAt Tryz.prog fl' 235 [.vp 5 0,.fn (.func f) [] caps] h (λr h'=>r= .tup []/\K h'):=by
 refine ACall.whole (fl:=fl) ?_ hfl hle (λr h' hr=>hk h' hr.2);refine bod Tryz.func235 Tryz.ntmps235 (λbase=>?_);cases he:(e==0) with
 |false=>
  have he':e≠0:=by simpa using he
  simp only [wkP] at hw;refine' zc (zn hw he);exact h1 he'
 |true=>
  have he':e=0:=by simpa using he
  have h2:=h2 he';simp only [wkP] at hw;refine' zc (zn hw he);refine h2.mono ?_;rintro r h' ⟨q',e',rfl,hw',hK⟩;simp only [wkP] at hw';have hs1:∀o,hget (hset h' 5 o) 5=some o:=λo=>zh hw';have hs2:∀a b,hset (hset h' 5 a) 5 b=hset h' 5 b:=λa b=>zhp h' 5 a b;simp only [go_sem,hw',hs1,hs2];refine' zc (zB hw' hs1 hs2)
structure Wk where
 q:Plan
 e:Int
def wcount (d:Disk) (s:Wk) (k by_:Int):Wk:=if s.e≠0 then s else ⟨(radd d s.q k by_).1,(radd d s.q k by_).2⟩
def wset (d:Disk) (s:Wk) (t i:Int) (x:Ent2):Wk:=if s.e≠0 then s else ⟨(eset d s.q t i x).1,(eset d s.q t i x).2⟩
def wget (d:Disk) (s:Wk) (t i:Int):Ent2×Wk:=if s.e≠0 then (⟨0,0⟩,s) else ((eget d s.q t i).1,⟨s.q,(eget d s.q t i).2⟩)
def zdv (d:Disk) (s:Wk) (k:Int):Int×Wk:=if s.e≠0 then (0,s) else ((rget d s.q k).1,⟨s.q,(rget d s.q k).2⟩)
@[go_sem] abbrev zpB (g:Geom) (d:Disk) (s:Wk) (k by_:Int):AHeap:= [(42,.var [.d (.int .i64 by_)]),(41,.var [.d (.int .i64 k)]),(40,.var [.vp 5 0]),(5,.var (wkP s.q g d s.e))]
theorem zti (g:Geom) (d:Disk) (s:Wk) (k by_:Int) (h:DP d s.q):ACall Tryz.prog 236 80 [.vp 40 0,.vp 41 0,.vp 42 0] (zpB g d s k by_) (λr h'=>r= .tup [planA (radd d s.q k by_).1,.d (.int .i64 (radd d s.q k by_).2)]/\h'=zpB g d s k by_):=by refine zC (λi=>decide (i<80)) ?_;refine bod Tryz.func236 Tryz.ntmps236 (λbase=>?_);refine' walkW fx (za zW <| za zdf <| za zce <| za zk <| za zD <| za zo <| za zbQ <| za zaU <| zb _)
theorem zlu (g:Geom) (d:Disk) (s:Wk) (k by_:Int) (h:DP d s.q):ACall Tryz.prog 191 40 [.vp 5 0,.d (.int .i64 k),.d (.int .i64 by_)] [(5,.var (wkP s.q g d s.e))] (λr h'=>∃ob',h'= [(5,ob')]/\r= .tup []/\ob'= .var (wkP (wcount d s k by_).q g d (wcount d s k by_).e)):=by
 refine zC (λi=>decide (i<40)) ?_;refine bod Tryz.func191 Tryz.ntmps191 (λbase=>?_);refine' zc fx;refine (zi7 (fl:=60) (K:=λh'=>(s.e≠0/\h'=zpB g d s k by_)\/(s.e=0/\h'=hset (zpB g d s k by_) 5 (.var (wkP (radd d s.q k by_).1 g d (radd d s.q k by_).2)))) (zJ rfl) (by omega) rfl ?_ ?_ ?_).mono ?_
 ·rintro h' (⟨_,rfl⟩|⟨_,rfl⟩) i hi
  ·exact hi
  ·rw [zaS (by rfl)];revert hi;simp only [hget];repeat' split
   all_goals simp
 ·intro he;exact .inl ⟨he,rfl⟩
 ·intro he
  refine ((zti g d s k by_ h).whole (zJ rfl) (by omega) (by
   rintro r h' ⟨_,rfl⟩ i hi;revert hi;simp only [hget];repeat' split
   all_goals simp)).mono ?_
  rintro r h' ⟨rfl,rfl⟩;exact ⟨_,_,rfl,rfl,.inr ⟨he,rfl⟩⟩
 ·rintro r h' ⟨rfl,(⟨he,rfl⟩|⟨he,rfl⟩)⟩
  ·have hm:wcount d s k by_=s:=by rw [wcount,if_pos he]
   rw [hm];refine' zc fx;all_goals first|rfl|exact ⟨_,rfl,rfl⟩|exact ⟨_,rfl,by rw [hm]⟩|skip
  ·have hm:wcount d s k by_=⟨(radd d s.q k by_).1,(radd d s.q k by_).2⟩:=by rw [wcount,if_neg (by rw [he];decide)]
   rw [hm];refine' zc fx;all_goals first|rfl|exact ⟨_,rfl,rfl⟩|exact ⟨_,rfl,by rw [hm]⟩|skip
@[go_sem] abbrev hSet (g:Geom) (d:Disk) (s:Wk) (t i:Int) (x:Ent2):AHeap:= [(43,.var [.d (.int .i64 x.kind),.d (.int .i64 x.loc)]),(42,.var [.d (.int .i64 i)]),(41,.var [.d (.int .i64 t)]),(40,.var [.vp 5 0]),(5,.var (wkP s.q g d s.e))]
theorem zxm (g:Geom) (d:Disk) (s:Wk) (t i:Int) (x:Ent2) (h:DP d s.q):ACall Tryz.prog 264 80 [.vp 40 0,.vp 41 0,.vp 42 0,.vp 43 0] (hSet g d s t i x) (λr h'=>r= .tup [planA (eset d s.q t i x).1,.d (.int .i64 (eset d s.q t i x).2)]/\h'=hSet g d s t i x):=by refine zC (λi=>decide (i<80)) ?_;refine bod Tryz.func264 Tryz.ntmps264 (λbase=>?_);refine' walkW fx (za zW <| za zdf <| za zce <| za zk <| za zD <| za zo <| za zbQ <| za zaU <| zb _)
theorem zpC (g:Geom) (d:Disk) (s:Wk) (t i:Int) (x:Ent2) (h:DP d s.q):ACall Tryz.prog 216 40 [.vp 5 0,.d (.int .i64 t),.d (.int .i64 i),entA x] [(5,.var (wkP s.q g d s.e))] (λr h'=>∃ob',h'= [(5,ob')]/\r= .tup []/\ob'= .var (wkP (wset d s t i x).q g d (wset d s t i x).e)):=by
 refine zC (λi=>decide (i<40)) ?_;refine bod Tryz.func216 Tryz.ntmps216 (λbase=>?_);refine' zc fx;refine (zi7 (fl:=60) (K:=λh'=>(s.e≠0/\h'=hSet g d s t i x)\/(s.e=0/\h'=hset (hSet g d s t i x) 5 (.var (wkP (eset d s.q t i x).1 g d (eset d s.q t i x).2)))) (zJ rfl) (by omega) rfl ?_ ?_ ?_).mono ?_
 ·rintro h' (⟨_,rfl⟩|⟨_,rfl⟩) i hi
  ·exact hi
  ·rw [zaS (by rfl)];revert hi;simp only [hget];repeat' split
   all_goals simp
 ·intro he;exact .inl ⟨he,rfl⟩
 ·intro he
  refine ((zxm g d s t i x h).whole (zJ rfl) (by omega) (by
   rintro r h' ⟨_,rfl⟩ i hi;revert hi;simp only [hget];repeat' split
   all_goals simp)).mono ?_
  rintro r h' ⟨rfl,rfl⟩;exact ⟨_,_,rfl,rfl,.inr ⟨he,rfl⟩⟩
 ·rintro r h' ⟨rfl,(⟨he,rfl⟩|⟨he,rfl⟩)⟩
  ·have hm:wset d s t i x=s:=by rw [wset,if_pos he]
   rw [hm];refine' zc fx;all_goals first|rfl|exact ⟨_,rfl,rfl⟩|exact ⟨_,rfl,by rw [hm]⟩|skip
  ·have hm:wset d s t i x=⟨(eset d s.q t i x).1,(eset d s.q t i x).2⟩:=by rw [wset,if_neg (by rw [he];decide)]
   rw [hm];refine' zc fx;all_goals first|rfl|exact ⟨_,rfl,rfl⟩|exact ⟨_,rfl,by rw [hm]⟩|skip
@[go_sem] abbrev hGet (g:Geom) (d:Disk) (s:Wk) (t i:Int):AHeap:= [(43,.var [.d (.int .i64 0),.d (.int .i64 0)]),(42,.var [.d (.int .i64 i)]),(41,.var [.d (.int .i64 t)]),(40,.var [.vp 5 0]),(5,.var (wkP s.q g d s.e))]
@[go_sem] abbrev hGet2 (g:Geom) (d:Disk) (s:Wk) (t i:Int):AHeap:= [(43,.var [.d (.int .i64 (eget d s.q t i).1.kind),.d (.int .i64 (eget d s.q t i).1.loc)]),(42,.var [.d (.int .i64 i)]),(41,.var [.d (.int .i64 t)]),(40,.var [.vp 5 0]),(5,.var (wkP s.q g d s.e))]
theorem zxn (g:Geom) (d:Disk) (s:Wk) (t i:Int) (h:DP d s.q):ACall Tryz.prog 263 80 [.vp 40 0,.vp 41 0,.vp 42 0,.vp 43 0] (hGet g d s t i) (λr h'=>r= .tup [planA s.q,.d (.int .i64 (eget d s.q t i).2)]/\h'=hGet2 g d s t i):=by refine zC (λi=>decide (i<80)) ?_;refine bod Tryz.func263 Tryz.ntmps263 (λbase=>?_);refine' walkW fx (za zW <| za zdf <| za zce <| za zk <| za zD <| za zo <| za zbQ <| za zaU <| zb _)
theorem zpD (g:Geom) (d:Disk) (s:Wk) (t i:Int) (h:DP d s.q):ACall Tryz.prog 215 40 [.vp 5 0,.d (.int .i64 t),.d (.int .i64 i)] [(5,.var (wkP s.q g d s.e))] (λr h'=>∃ob',h'= [(5,ob')]/\r=entA (wget d s t i).1/\ob'= .var (wkP ((wget d s t i).2).q g d ((wget d s t i).2).e)):=by
 refine zC (λi=>decide (i<40)) ?_;refine bod Tryz.func215 Tryz.ntmps215 (λbase=>?_);refine' zc fx;refine (zi7 (fl:=60) (K:=λh'=>(s.e≠0/\h'=hGet g d s t i)\/(s.e=0/\h'=hset (hGet2 g d s t i) 5 (.var (wkP s.q g d (eget d s.q t i).2)))) (zJ rfl) (by omega) rfl ?_ ?_ ?_).mono ?_
 ·rintro h' (⟨_,rfl⟩|⟨_,rfl⟩) i hi
  ·exact hi
  ·rw [zaS (by rfl)];revert hi;simp only [hget];repeat' split
   all_goals simp
 ·intro he;exact .inl ⟨he,rfl⟩
 ·intro he
  refine ((zxn g d s t i h).whole (zJ rfl) (by omega) (by
   rintro r h' ⟨_,rfl⟩ i hi;revert hi;simp only [hget];repeat' split
   all_goals simp)).mono ?_
  rintro r h' ⟨rfl,rfl⟩;exact ⟨_,_,rfl,rfl,.inr ⟨he,rfl⟩⟩
 ·rintro r h' ⟨rfl,(⟨he,rfl⟩|⟨he,rfl⟩)⟩
  ·have hm:wget d s t i=(⟨0,0⟩,s):=by rw [wget,if_pos he]
   refine' zc hm;all_goals first|rfl|exact ⟨_,rfl,rfl⟩|exact ⟨_,rfl,by rw [hm]⟩|skip
  ·have hm:wget d s t i=((eget d s.q t i).1,⟨s.q,(eget d s.q t i).2⟩):=by rw [wget,if_neg (by rw [he];decide)]
   refine' zc hm;all_goals first|rfl|exact ⟨_,rfl,rfl⟩|exact ⟨_,rfl,by rw [hm]⟩|skip
@[go_sem] abbrev zpE (g:Geom) (d:Disk) (s:Wk) (k:Int):AHeap:= [(42,.var [.d (.int .i64 0)]),(41,.var [.d (.int .i64 k)]),(40,.var [.vp 5 0]),(5,.var (wkP s.q g d s.e))]
@[go_sem] abbrev zmQ (g:Geom) (d:Disk) (s:Wk) (k:Int):AHeap:= [(42,.var [.d (.int .i64 (rget d s.q k).1)]),(41,.var [.d (.int .i64 k)]),(40,.var [.vp 5 0]),(5,.var (wkP s.q g d s.e))]
theorem zor (g:Geom) (d:Disk) (s:Wk) (k:Int) (h:DP d s.q):ACall Tryz.prog 288 80 [.vp 40 0,.vp 41 0,.vp 42 0] (zpE g d s k) (λr h'=>r= .tup [planA s.q,.d (.int .i64 (rget d s.q k).2)]/\h'=zmQ g d s k):=by refine zC (λi=>decide (i<80)) ?_;refine bod Tryz.func288 Tryz.ntmps288 (λbase=>?_);refine' walkW fx (za zW <| za zdf <| za zce <| za zk <| za zD <| za zo <| za zbQ <| za zaU <| zb _)
theorem zq5 (g:Geom) (d:Disk) (s:Wk) (k:Int) (h:DP d s.q):ACall Tryz.prog 261 40 [.vp 5 0,.d (.int .i64 k)] [(5,.var (wkP s.q g d s.e))] (λr h'=>∃ob',h'= [(5,ob')]/\r= .d (.int .i64 (zdv d s k).1)/\ob'= .var (wkP ((zdv d s k).2).q g d ((zdv d s k).2).e)):=by
 refine zC (λi=>decide (i<40)) ?_;refine bod Tryz.func261 Tryz.ntmps261 (λbase=>?_);refine' zc fx;refine (zi7 (fl:=60) (K:=λh'=>(s.e≠0/\h'=zpE g d s k)\/(s.e=0/\h'=hset (zmQ g d s k) 5 (.var (wkP s.q g d (rget d s.q k).2)))) (zJ rfl) (by omega) rfl ?_ ?_ ?_).mono ?_
 ·rintro h' (⟨_,rfl⟩|⟨_,rfl⟩) i hi
  ·exact hi
  ·rw [zaS (by rfl)];revert hi;simp only [hget];repeat' split
   all_goals simp
 ·intro he;exact .inl ⟨he,rfl⟩
 ·intro he
  refine ((zor g d s k h).whole (zJ rfl) (by omega) (by
   rintro r h' ⟨_,rfl⟩ i hi;revert hi;simp only [hget];repeat' split
   all_goals simp)).mono ?_
  rintro r h' ⟨rfl,rfl⟩;exact ⟨_,_,rfl,rfl,.inr ⟨he,rfl⟩⟩
 ·rintro r h' ⟨rfl,(⟨he,rfl⟩|⟨he,rfl⟩)⟩
  ·have hm:zdv d s k=(0,s):=by rw [zdv,if_pos he]
   refine' zc hm;all_goals first|rfl|exact ⟨_,rfl,rfl⟩|exact ⟨_,rfl,by rw [hm]⟩|skip
  ·have hm:zdv d s k=((rget d s.q k).1,⟨s.q,(rget d s.q k).2⟩):=by rw [zdv,if_neg (by rw [he];decide)]
   refine' zc hm;all_goals first|rfl|exact ⟨_,rfl,rfl⟩|exact ⟨_,rfl,by rw [hm]⟩|skip
open Go Go.Proofs
def zdp (d:Disk) (g:Geom) (s:Wk):Int×Wk:=if s.e≠0 then (0,s) else ((rtake d s.q g).2.1,⟨(rtake d s.q g).1,(rtake d s.q g).2.2⟩)
def wtake (d:Disk) (g:Geom) (s:Wk) (F:Plan->Int->Plan×Int):Int×Wk:=
 ((zdp d g s).1,if (zdp d g s).2.e≠0 then (zdp d g s).2 else ⟨(F (zdp d g s).2.q (zdp d g s).1).1,(F (zdp d g s).2.q (zdp d g s).1).2⟩)
@[go_sem] abbrev hOwn (g:Geom) (d:Disk) (s:Wk) (x:Ent2) (l1 nx:Int):AHeap:= [(22,.var [.d (.int .i64 x.kind),.d (.int .i64 x.loc)]),(5,.var (wkP s.q g d s.e)),(21,.var [.d (.int .i64 l1),.d (.int .u32 nx)]),(20,.var [.vp 5 0])]
@[go_sem] abbrev hTak (g:Geom) (d:Disk) (s:Wk) (x:Ent2) (l1 nx:Int) (f:FuncId) (caps:List AV) (k:Int):AHeap:= [(42,.var [.d (.int .i64 k)]),(41,.var [.fn (.func f) [] caps]),(40,.var [.vp 5 0]),(22,.var [.d (.int .i64 x.kind),.d (.int .i64 x.loc)]),(5,.var (wkP s.q g d s.e)),(21,.var [.d (.int .i64 l1),.d (.int .u32 nx)]),(20,.var [.vp 5 0])]
theorem zvz (g:Geom) (d:Disk) (s:Wk) (x:Ent2) (l1 nx:Int) (f:FuncId) (caps:List AV) (hcap:AV.idsL caps= [20]\/AV.idsL caps= [20,22]) (h:DP d s.q) (hg:g.host<=1000000):ACall Tryz.prog 285 80 [.vp 40 0,.vp 42 0] (hTak g d s x l1 nx f caps 0) (λr h'=>r= .tup [planA (rtake d s.q g).1,.d (.int .i64 (rtake d s.q g).2.2)]/\h'=hTak g d s x l1 nx f caps (rtake d s.q g).2.1):=by refine zC (λi=>decide (i<80)) ?_;refine bod Tryz.func285 Tryz.ntmps285 (λbase=>?_);refine' walkW fx (za zW <| za zdf <| za zce <| za zk <| za zD <| za zo <| za zbQ <| za zaU <| zb _);rcases hcap with e|e<;>(rw [e];rfl)
@[go_sem] abbrev hFil (g:Geom) (d:Disk) (s:Wk) (x:Ent2) (l1 nx:Int) (f:FuncId) (caps:List AV) (k:Int):AHeap:=(80,.var [.nils 1,.nils 1])::hTak g d s x l1 nx f caps k
theorem zvA (g:Geom) (d:Disk) (s:Wk) (x:Ent2) (l1 nx:Int) (f:FuncId) (caps:List AV) (k:Int) (F:Plan×Int) (hcap:AV.idsL caps= [20]\/AV.idsL caps= [20,22])
  (hF:ACallAt Tryz.prog 80 f (.d (.int .i64 k)::caps) (hFil g d s x l1 nx f caps k) (λr h'=>r= .tup [planA F.1,.d (.int .i64 F.2)]/\h'=hFil g d s x l1 nx f caps k)):ACall Tryz.prog 286 80 [.vp 41 0,.vp 42 0] (hTak g d s x l1 nx f caps k) (λr h'=>r= .tup [planA F.1,.d (.int .i64 F.2)]/\h'=hTak g d s x l1 nx f caps k):=by refine zC (λi=>decide (i<80)) ?_;refine bod Tryz.func286 Tryz.ntmps286 (λbase=>?_);refine' zc fx;refine hF.mono ?_;rintro r h' ⟨rfl,rfl⟩;simp only [go_sem,aeq,aeq.aeqF,simprocAttr];refine' zc fx;rcases hcap with e|e<;>(rw [e];rfl)
theorem zpF (g:Geom) (d:Disk) (s:Wk) (x:Ent2) (l1 nx:Int) (f:FuncId) (caps:List AV) (F:Plan->Int->Plan×Int) (hcap:AV.idsL caps= [20]\/AV.idsL caps= [20,22]) (h:DP d s.q) (hg:g.host<=1000000)
  (hF:∀ (s1:Wk) (k:Int),DP d s1.q->ACallAt Tryz.prog 80 f (.d (.int .i64 k)::caps) (hFil g d s1 x l1 nx f caps k) (λr h'=>r= .tup [planA (F s1.q k).1,.d (.int .i64 (F s1.q k).2)]/\h'=hFil g d s1 x l1 nx f caps k)):
  ACall Tryz.prog 258 40 [.vp 5 0,.fn (.func f) [] caps] (hOwn g d s x l1 nx) (λr h'=>r= .d (.int .i64 (wtake d g s F).1)/\h'=hOwn g d (wtake d g s F).2 x l1 nx):=by
 refine zC (λi=>decide (i<40)) ?_;refine bod Tryz.func258 Tryz.ntmps258 (λbase=>?_);refine' zc fx;obtain ⟨s1,hs1⟩:∃s1,s1=(zdp d g s).2:=⟨_,rfl⟩
 obtain ⟨k,hk⟩:∃k,k=(zdp d g s).1:=⟨_,rfl⟩
 have hd1:DP d s1.q:=by rw [hs1];unfold zdp;split;exact h;exact h.rtake g
 refine (zi7 (fl:=60) (q:=s.q) (g:=g) (d:=d) (e:=s.e) (K:=λh'=>h'=hTak g d s1 x l1 nx f caps k) (zJ rfl) (by omega) rfl ?_ ?_ ?_).mono ?_
 ·rintro h' rfl i hi;revert hi;simp only [hget];repeat' split
  all_goals simp
 ·intro he;rw [hs1,hk,zdp,if_pos he];rfl
 ·intro he
  refine ((zvz g d s x l1 nx f caps hcap h hg).whole (zJ rfl) (by omega) (by
   rintro r h' ⟨_,rfl⟩ i hi;revert hi;simp only [hget];repeat' split
   all_goals simp)).mono ?_
  rintro r h' ⟨rfl,rfl⟩;refine ⟨_,_,rfl,rfl,?_⟩;rw [hs1,hk,zdp,if_neg (by rw [he];decide)];rfl
 rintro r h' ⟨rfl,rfl⟩;refine' zc fx;refine (zi7 (fl:=60) (q:=s1.q) (g:=g) (d:=d) (e:=s1.e) (K:=λh'=>h'=hTak g d (wtake d g s F).2 x l1 nx f caps k) (zJ rfl) (by omega) rfl ?_ ?_ ?_).mono ?_
 ·rintro h' rfl i hi;revert hi;simp only [hget];repeat' split
  all_goals simp
 ·intro he;rw [wtake,<-hs1,<-hk,if_pos he];rfl
 ·intro he
  refine ((zvA g d s1 x l1 nx f caps k (F s1.q k) hcap (hF s1 k hd1)).whole (zJ rfl) (by omega) (by
   rintro r h' ⟨_,rfl⟩ i hi;revert hi;simp only [hget];repeat' split
   all_goals simp)).mono ?_
  rintro r h' ⟨rfl,rfl⟩;refine ⟨_,_,rfl,rfl,?_⟩;rw [wtake,<-hs1,<-hk,if_neg (by rw [he];decide)];rfl
 rintro r h' ⟨rfl,rfl⟩;refine' zc fx;rw [wtake,<-hk]
theorem zxo (g:Geom) (d:Disk) (s1:Wk) (x:Ent2) (l1 nx:Int) (k:Int) (h:DP d s1.q):ACallAt Tryz.prog 80 259 (.d (.int .i64 k):: [.vp 20 0]) (hFil g d s1 x l1 nx 259 [.vp 20 0] k) (λr h'=>r= .tup [planA (eblank s1.q k).1,.d (.int .i64 (eblank s1.q k).2)]/\h'=hFil g d s1 x l1 nx 259 [.vp 20 0] k):=by have hp:=h.p;refine ACall.whole (fl:=100) ?_ (zJ rfl) (by omega) (by rintro r h' ⟨_,rfl⟩ i hi;exact hi);refine zC (λi=>decide (i<100)) ?_;refine bod Tryz.func259 Tryz.ntmps259 (λbase=>?_);refine' walkW fx (za zW <| za zdf <| za zce <| za zk <| za zD <| za zo <| za zbQ <| za zaU <| zb _)
theorem zxp (g:Geom) (d:Disk) (s1:Wk) (x:Ent2) (l1 nx:Int) (k:Int) (h:DP d s1.q):ACallAt Tryz.prog 80 262 (.d (.int .i64 k):: [.vp 20 0,.vp 22 0]) (hFil g d s1 x l1 nx 262 [.vp 20 0,.vp 22 0] k) (λr h'=>r= .tup [planA (ecopy d s1.q x.loc k).1,.d (.int .i64 (ecopy d s1.q x.loc k).2)]/\h'=hFil g d s1 x l1 nx 262 [.vp 20 0,.vp 22 0] k):=by refine ACall.whole (fl:=100) ?_ (zJ rfl) (by omega) (by rintro r h' ⟨_,rfl⟩ i hi;exact hi);refine zC (λi=>decide (i<100)) ?_;refine bod Tryz.func262 Tryz.ntmps262 (λbase=>?_);refine' walkW fx (za zW <| za zdf <| za zce <| za zk <| za zD <| za zo <| za zbQ <| za zaU <| zb _)
@[go_sem] abbrev hOw1 (g:Geom) (d:Disk) (s:Wk) (l1 nx:Int):AHeap:= [(21,.var [.d (.int .i64 l1),.d (.int .u32 nx)]),(20,.var [.vp 5 0]),(5,.var (wkP s.q g d s.e))]
theorem zxq (g:Geom) (d:Disk) (s:Wk) (h:DP d s.q):ACall Tryz.prog 257 80 [.vp 20 0,.vp 21 0] (hOw1 g d s 0 0) (λr h'=>r= .tup [planA s.q,.d (.int .i64 (ze d s.q).2)]/\h'=hOw1 g d s (ze d s.q).1.l1 (ze d s.q).1.next):=by refine zC (λi=>decide (i<80)) ?_;refine bod Tryz.func257 Tryz.ntmps257 (λbase=>?_);refine' walkW fx (za zW <| za zdf <| za zce <| za zk <| za zD <| za zo <| za zbQ <| za zaU <| zb _)
end Go.Aw
