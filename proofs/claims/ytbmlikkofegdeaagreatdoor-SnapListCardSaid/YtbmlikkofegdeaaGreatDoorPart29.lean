/-
  Parts of the proof: RootD, PointD, PointE, PointF, PointG, CowA, CowB (short names; the readable texts lie in the repo, under wip).
-/
import Derived.Test.YtbmlikkofegdeaaGreatDoorPart28
import Derived.Test.YtbmlikkofegdeaaGreatDoorPart17
import Derived.Test.YtbmlikkofegdeaaGreatDoorPart24
import Derived.Test.YtbmlikkofegdeaaGreatDoorPart26
import Derived.Test.YtbmlikkofegdeaaGreatDoorPart21
set_option maxRecDepth 100000
set_option maxHeartbeats 2000000
set_option linter.unusedSimpArgs false
set_option linter.unusedVariables false
namespace Go.Aw
open Go Go.Proofs
def cutL (s:Txt):Txt:=s.dropWhile (· ==0)
theorem ztM (s:Txt) (hs:s.length≤9223372036854775807):ACall Tryz.prog 292 0 [.d (.str s),.d (.int .u8 0)] [] (fun r _=>r= .d (.str (cutL s))):=by
 refine fbod Tryz.func292 Tryz.ntmps292 (fun base=>?_)
 refine' zc fx
 refine zk (fun q: { t:Txt // t.length≤s.length∧cutL s=cutL t } =>⟨[(0,true,.d (.str q.1)),(1,true,.d (.int .u8 0))],[],some []⟩) (fun q=>q.1.length) ⟨s,Nat.le_refl _,rfl⟩ le0 (fun q=>?_)
 obtain ⟨t,hl,hf⟩:=q
 simp only at hl hf ⊢
 cases t with
 |nil=>
  have h0:decide ((0:Int)<(([]:Txt).length:Int))=false:=rfl
  refine' zc h0
  rw [hf]
  rfl
 | cons c t=>
  have h0:decide ((0:Int)<((t.length+1:Nat):Int))=true:=decide_eq_true (by omega)
  have h1:List.drop 1 (c::t)=t:=rfl
  have hg0:List.getD (c::t) 0 0=c:=rfl
  simp only [List.length_cons] at hl
  by_cases hz:c=0
  ·have hz2:((c.toNat:Int)==0)=true:=by rw [hz];rfl
   refine' zc (z8 h0 h1 hg0 hz2)
   all_goals first|omega|skip
   exact ⟨⟨t,by omega,by rw [hf,hz];simp [cutL,List.dropWhile_cons]⟩,by simp only [AS.le,leT,leH,zj,AsgK,AV.le,AV.leL,AObj.le,inH,idsT,idsH,AV.ids,AV.idsL,AV.idsR,AObj.ids,lk,hget,go_sem,aeq,aeq.aeqF,simprocAttr],by simp⟩
  ·have hz2:((c.toNat:Int)==0)=false:=by
    rw [beq_eq_false_iff_ne]
    intro h
    exact hz (UInt8.toNat_inj.1 (by simpa using h))
   refine' zc (z8 h0 h1 hg0 hz2)
   have hcb:(c==0)=false:=by simpa using hz
   rw [hf,cutL,List.dropWhile_cons,hcb]
   rfl
@[go_sem] noncomputable def ze1:Ent Tryz.prog 292:= .ofL (consL strT (consL (zdn (.d (.int .u8 0))) nilL)) (fun (s,_,_)=>s.length≤9223372036854775807) (fun (s,_,_)=> .d (.str (cutL s))) (fun (s,_,_) hp=>⟨rfl,ztM s hp⟩)
theorem ztN (s:Txt) (hs:s.length≤9223372036854775807):ACall Tryz.prog 293 0 [.d (.str s),.d (.int .u8 0)] [] (fun r _=>r= .d (.str (cutZ s))):=by
 refine fbod Tryz.func293 Tryz.ntmps293 (fun base=>?_)
 refine' zc fx
 refine zk (fun q: { t:Txt // t.length≤s.length∧cutZ s=cutZ t } =>⟨[(0,true,.d (.str q.1)),(1,true,.d (.int .u8 0))],[],some []⟩) (fun q=>q.1.length) ⟨s,Nat.le_refl _,rfl⟩ le0 (fun q=>?_)
 obtain ⟨t,hl,hf⟩:=q
 simp only at hl hf ⊢
 rcases List.eq_nil_or_concat t with rfl|⟨u,c,rfl⟩
 ·have h0:decide ((0:Int)<(([]:Txt).length:Int))=false:=rfl
  refine' zc h0
  rw [hf]
  rfl
 ·rw [List.concat_eq_append] at hl hf ⊢
  have hln:(u++ [c]).length=u.length+1:=by simp
  have h0:decide ((0:Int)<((u.length+1:Nat):Int))=true:=decide_eq_true (by omega)
  have hw:IntKind.i64.wrap (((u.length+1:Nat):Int) - 1)=(u.length:Int):=by rw [ze (by omega) (by omega)];omega
  have h1:List.take u.length (u++ [c])=u:=by simp
  have hg0:List.getD (u++ [c]) u.length 0=c:=by simp
  by_cases hz:c=0
  ·have hz2:((c.toNat:Int)==0)=true:=by rw [hz];rfl
   refine' zc (zL hln h0 hw natC h1 (zp hg0 hz2))
   all_goals first|omega|skip
   exact ⟨⟨u,by omega,by rw [hf,hz,zfL]⟩,by simp only [AS.le,leT,leH,zj,AsgK,AV.le,AV.leL,AObj.le,inH,idsT,idsH,AV.ids,AV.idsL,AV.idsR,AObj.ids,lk,hget,go_sem,aeq,aeq.aeqF,simprocAttr],by simp⟩
  ·have hz2:((c.toNat:Int)==0)=false:=by
    rw [beq_eq_false_iff_ne]
    intro h
    exact hz (UInt8.toNat_inj.1 (by simpa using h))
   refine' zc (zL hln h0 hw natC h1 (zp hg0 hz2))
   all_goals first|omega|skip
   rw [hf,zeW _ _ hz]
@[go_sem] noncomputable def ze2:Ent Tryz.prog 293:= .ofL (consL strT (consL (zdn (.d (.int .u8 0))) nilL)) (fun (s,_,_)=>s.length≤9223372036854775807) (fun (s,_,_)=> .d (.str (cutZ s))) (fun (s,_,_) hp=>⟨rfl,ztN s hp⟩)
theorem zoe (s:Txt):(cutZ s).length≤s.length:=by
 have h:∀l:Txt,(l.dropWhile (· ==0)).length≤l.length:=fun l=>List.IsSuffix.length_le (List.dropWhile_suffix _)
 unfold cutZ
 rw [List.length_reverse]
 refine Nat.le_trans (h _) ?_
 rw [List.length_reverse]
 exact Nat.le_refl _
theorem zvk (s:Txt) (hs:s.length≤9223372036854775807):ACall Tryz.prog 270 0 [.d (.str s),.d (.str [0])] [] (fun r _=>r= .d (.str (cutL (cutZ s)))):=by
 refine fbod Tryz.func270 Tryz.ntmps270 (fun base=>?_)
 have hcl:=zoe s
 cases s with
 |nil=>
  refine' walkW fx (za ze1 <| za ze2 <| zb _)
  rfl
 |cons c s=>
  have hb:(c::s==([]:Txt))=false:=rfl
  have hb2:(([0]:Txt)==([]:Txt))=false:=rfl
  refine' walkW (zp hb hb2) (za ze1 <| za ze2 <| zb _)
  all_goals first|omega|decide|rfl|(simp only [List.length_cons] at hs;omega)|skip
@[go_sem] noncomputable def zdR:Ent Tryz.prog 270:= .ofL (consL strT (consL (zdn (.d (.str [0]))) nilL)) (fun (s,_,_)=>s.length≤9223372036854775807) (fun (s,_,_)=> .d (.str (cutL (cutZ s)))) (fun (s,_,_) hp=>⟨rfl,zvk s hp⟩)
theorem zlm (s:Txt) (hs:s.length≤9223372036854775807):ACall Tryz.prog 299 0 [.d (.str s),.d (.str [0])] [] (fun r _=>r= .d (.str (cutZ s))):=by
 refine fbod Tryz.func299 Tryz.ntmps299 (fun base=>?_)
 cases s with
 |nil=>
  refine' walkW fx (za ze1 <| za ze2 <| zb _)
  rfl
 |cons c s=>
  have hb:(c::s==([]:Txt))=false:=rfl
  have hb2:(([0]:Txt)==([]:Txt))=false:=rfl
  refine' walkW (zp hb hb2) (za ze1 <| za ze2 <| zb _)
  all_goals first|omega|decide|rfl|(simp only [List.length_cons] at hs;omega)|skip
@[go_sem] noncomputable def zdA:Ent Tryz.prog 299:= .ofL (consL strT (consL (zdn (.d (.str [0]))) nilL)) (fun (s,_,_)=>s.length≤9223372036854775807) (fun (s,_,_)=> .d (.str (cutZ s))) (fun (s,_,_) hp=>⟨rfl,zlm s hp⟩)
theorem zrI (s:Txt) (hs:s.length≤9223372036854775807):AC 271 [.d (.str s)] (.tup [.d (.str (zdg s).1),.d (.int .i64 (zdg s).2)]):=by
 refine fbod Tryz.func271 Tryz.ntmps271 (fun base=>?_)
 have hcl:=zoe s
 by_cases h8:s.length=8
 ·have hb:((s.length:Int) !=8)=false:=by rw [h8];rfl
  have htn:zdg s=if zar (cutZ s) then (cutZ s,0) else ([],19):=by rw [zdg,if_neg (fun h=>h h8)]
  cases hn:zar (cutZ s) with
  |true=>
   refine' walkW (zp hb hn) (za zdA <| za zeP <| zb _)
   all_goals first|omega|rw [htn,hn];rfl
  |false=>
   refine' walkW (zp hb hn) (za zdA <| za zeP <| zb _)
   all_goals first|omega|rw [htn,hn];rfl
 ·have hb:((s.length:Int) !=8)=true:=by simp;omega
  refine' walkW hb (za zdA <| za zeP <| zb _)
  rw [zdg,if_pos h8]
@[go_sem] noncomputable def zm4:Ent Tryz.prog 271:= .m1 strT zrI
theorem zrJ (n:Int) (hp:0≤n∧n≤140737488355328):AC 237 [.d (.int .i64 n)] (.d (.str (List.replicate n.toNat 0))):=by
 obtain ⟨h0,h1⟩:=hp
 refine fbod Tryz.func237 Tryz.ntmps237 (fun base=>?_)
 refine' walkW fx (za zbe <| zb _)
@[go_sem] noncomputable def zh4:Ent Tryz.prog 237:= .m1 (intT .i64) zrJ
theorem zm5 (b:Txt) (hb:b.length=16):AC 231 [.d (.str b)] (snpA (snpR b)):=by
 refine fbod Tryz.func231 Tryz.ntmps231 (fun base=>?_)
 have ht4:=zcH (s:=b) (z:=4) 4 rfl (by omega) (by omega) (by omega)
 have ht2:=zcH (s:=b.drop 4) (z:=2) 2 rfl (by omega) (by omega) (by rw [List.length_drop];omega)
 have hL2:(List.drop 8 b).length≤9223372036854775807:=by rw [List.length_drop];omega
 have h1:=zbJ (l:=b.take 4) (i:=4) (by rw [List.length_take];omega)
 have h2:=zbJ (l:=(b.drop 4).take 2) (i:=2) (by rw [List.length_take];omega)
 have hu1:IntKind.u32.wrap ((takeN (b.take 4):Nat):Int)=((takeN (b.take 4):Nat):Int):=zeV (by omega) (by omega)
 have hu2:IntKind.i64.wrap ((takeN ((b.drop 4).take 2):Nat):Int)=((takeN ((b.drop 4).take 2):Nat):Int):=ze (by omega) (by omega)
 have hz0:List.drop (Int.toNat 0) b=b:=rfl
 have hz4:List.drop (Int.toNat 4) b=List.drop 4 b:=rfl
 have hln:((b.length:Nat):Int)=16:=by omega
 refine' walkW (zL hz0 hz4 ht4 ht2 hu1 hu2) (za zm4 <| za zeB <| zb _)
 all_goals first|omega|rfl|skip
@[go_sem] noncomputable def zbA:Ent Tryz.prog 231:= .m1 strT zm5
def wsnp (s:Snp):Txt:=if s.id=0∧s.l1=0∧s.name= [] then z16 else putN s.id.toNat 4++putN (IntKind.u64.wrap s.l1).toNat 2++ [0,0]++(nameS s.name).1
theorem zrK {s:Snp} (h:(snpB s).2=true):wsnp s=(snpB s).1:=by
 unfold snpB at h ⊢
 unfold wsnp
 split
 ·rfl
 rename_i h1
 rw [if_neg h1] at h
 split
 ·rename_i h2;rw [if_pos h2] at h;cases h
 ·rename_i h2
  simp only [not_or,Bool.not_eq_false] at h2
  have hk:=hostOk_iff.1 h2.2.2
  rw [zaf (by omega) (by omega)]
theorem zrL {s:Snp} (h0:0≤s.id) (hz:¬(s.id=0∧s.l1=0∧s.name= [])):(zar s.name&&decide (0<s.id)&&zH s.l1)=(snpB s).2:=by
 unfold snpB
 rw [if_neg hz]
 split
 ·rename_i h2
  rcases h2 with h2|h2|h2
  ·rw [h2];simp
  ·rw [h2];simp
  ·rw [h2];simp
 ·rename_i h2
  simp only [not_or,Bool.not_eq_false] at h2
  have:0<s.id:=by omega
  simp [h2.2.1,h2.2.2,this]
theorem zln (s:Snp) (hp:0≤s.id∧s.id≤4294967295∧s.name.length≤9223372036854775807):AC 192 [snpA s] (.tup [.d (.str (wsnp s)),.d (.bool (snpB s).2)]):=by
 obtain ⟨h0,h1,hn⟩:=hp
 refine fbod Tryz.func192 Tryz.ntmps192 (fun base=>?_)
 by_cases hz:s.id=0∧s.l1=0∧s.name= []
 ·have hb:(s.id==0&&(s.l1==0&&s.name== []))=true:=by simpa using hz
  have h16:List.replicate (Int.toNat 16) (0:UInt8)=z16:=rfl
  refine' walkW (zp hb h16) (za zh4 <| za zhC <| za zcr <| za zbW <| zb _)
  rw [wsnp,snpB,if_pos hz,if_pos hz]
  rfl
 have hb:(s.id==0&&(s.l1==0&&s.name== []))=false:=by rw [Bool.eq_false_iff];simpa using hz
 have hw:IntKind.u64.wrap s.id=s.id:=zaf h0 (by omega)
 have hw2:0≤IntKind.u64.wrap s.l1∧IntKind.u64.wrap s.l1<18446744073709551616:=by rw [IntKind.wrap_u64];omega
 have hp1:=zI s.id.toNat 4
 have hp2:=zI (IntKind.u64.wrap s.l1).toNat 2
 have hfl:=zrL h0 hz
 have hnz:((nameS s.name).2==0)=zar s.name:=by
  cases h:zar s.name with
  |true=>rw [(zdK h).2.1];rfl
  |false=>rw [nameS,if_neg (by rw [h];decide)];rfl
 have hnl:(nameS s.name).1.length≤8:=by
  cases h:zar s.name with
  |true=>rw [(zdK h).1];exact Nat.le_refl _
  |false=>rw [nameS,if_neg (by rw [h];decide)];exact Nat.zero_le _
 refine' walkW (zL hb hw hnz hfl @zhN @ziT) (za zh4 <| za zhC <| za zcr <| za zbW <| zb _)
 ·simp only [List.length_append];omega
 ·simp only [List.length_append,List.length_cons,List.length_nil];omega
 ·rw [Bool.not_not,hfl,wsnp,if_neg hz]
@[go_sem] noncomputable def zaA:Ent Tryz.prog 192:= .m1 zfK zln
def sgetA (d:Disk) (p:Plan) (a o:Int):Snp×Int:=
 if (plook d p a).2≠0 then (snp0,(plook d p a).2)
 else if snpOk (((plook d p a).1.take (o+16).toNat).drop o.toNat) then (snpT (((plook d p a).1.take (o+16).toNat).drop o.toNat),0) else (snp0,14)
theorem cutLZ {b:Txt} :(cutL (cutZ b)= [])↔ ∀c∈b,c=0:=by
 have h1:∀l:Txt,l.dropWhile (· ==0)= []↔ ∀c∈l,c=0:=by
  intro l
  induction l with
  |nil=>simp
  | cons x l ih=>
   rw [List.dropWhile_cons]
   by_cases hx:x=0
   ·subst hx;simp [ih]
   ·have:(x==0)=false:=by simpa using hx
    simp [this,hx]
 have h2:∀ (l:Txt) (c:UInt8),c∈l→c≠0→c∈cutZ l:=by
  intro l
  induction hn:l.length generalizing l with
  |zero=>intro c hc;rw [List.eq_nil_of_length_eq_zero hn] at hc;cases hc
  | succ n ih=>
   intro c hc h0
   rcases List.eq_nil_or_concat l with rfl|⟨u,x,rfl⟩
   ·cases hc
   ·rw [List.concat_eq_append] at hn hc ⊢
    by_cases hx:x=0
    ·subst hx
     rw [zfL]
     refine ih u (by simpa using hn) c ?_ h0
     rcases List.mem_append.1 hc with h|h
     ·exact h
     ·exact absurd (by simpa using h) h0
    ·rw [zeW _ _ hx];exact hc
 have h3:∀ (l:Txt) (c:UInt8),c∈cutZ l→c∈l:=by
  intro l c hc
  unfold cutZ at hc
  rw [List.mem_reverse] at hc
  exact List.mem_reverse.1 ((List.dropWhile_suffix _).subset hc)
 unfold cutL
 rw [h1]
 constructor
 ·intro h c hc
  refine Classical.byContradiction (fun h0=>h0 (h c (h2 _ _ hc h0)))
 ·intro h c hc
  exact h c (h3 _ _ hc)
theorem zvl {b:Txt} (h:b.length=16):(cutL (cutZ b)== [])=(b==z16):=by
 rw [Bool.eq_iff_iff,beq_iff_eq,beq_iff_eq,cutLZ]
 constructor
 ·intro hh
  rw [List.eq_replicate_of_mem hh,h]
  rfl
 ·intro hh c hc
  rw [hh] at hc
  exact List.eq_of_mem_replicate hc
theorem zpA (d:Disk) (p:Plan) (a:Int) (o:Int) (h:DP d p) (h0:0≤o) (h1:o≤48):ACall Tryz.prog 230 0 [diskA d,planA p,.agg [.d (.int .i64 a),.d (.int .i64 o),.d (.int .i64 16),.fn (.func 192) [] [],.fn (.func 231) [] []]] [] (fun r _=>r= .tup [snpA (sgetA d p a o).1,.d (.int .i64 (sgetA d p a o).2)]):=by
 refine fbod Tryz.func230 Tryz.ntmps230 (fun base=>?_)
 have h2:=h.dok
 have h3:=h.pok
 have h4:=h.plen
 have hw:IntKind.i64.wrap (o+16)=o+16:=ze (by omega) (by omega)
 obtain ⟨L,hL⟩:∃L,L=plook d p a:=⟨_,rfl⟩
 have hsg:sgetA d p a o=if L.2≠0 then (snp0,L.2) else if snpOk ((L.1.take (o+16).toNat).drop o.toNat) then (snpT ((L.1.take (o+16).toNat).drop o.toNat),0) else (snp0,14):=by rw [sgetA,hL]
 by_cases he:L.2=0
 ·have hb:(L.2 !=0)=false:=by simpa using he
  have h64:=zcs h (by rw [← hL];exact he)
  rw [← hL] at h64
  rw [if_neg (by simpa using he)] at hsg
  obtain ⟨B,hB⟩:∃B,B=(L.1.take (o+16).toNat).drop o.toNat:=⟨_,rfl⟩
  have hB16:B.length=16:=by rw [hB,List.length_drop,List.length_take];omega
  rw [← hB] at hsg
  obtain ⟨T,hT⟩:∃T,T=snpT B:=⟨_,rfl⟩
  obtain ⟨g1,g2,g3,g4,g5⟩:=zjM B
  rw [← hT] at hsg g1 g2 g3 g4 g5
  have hBl:B.length≤9223372036854775807:=by omega
  have hok:snpOk B=((snpB T).2&&((snpB T).1==B)):=by rw [snpOk,← hT]
  have hok2:snpOk B=((snpB T).2&&(wsnp T==B)):=by
   rw [hok]
   cases hf:(snpB T).2 with
   |true=>rw [zrK hf]
   |false=>rfl
  have hcl:=zvl hB16
  refine' zgH (zaN 8) (z8 hL.symm hb hw hB.symm) (za zX <| za zdR <| za zbA <| za zaA <| zb _)
  ·have hBz:B≠z16:=by
    intro hh
    have:(cutL (cutZ B) != [])=false:=by rw [bne,hcl,hh];rfl
    rw [hc] at this
    cases this
   have hTR:snpR B=T:=by rw [hT,snpT,if_neg hBz]
   have hTn:T.name.length≤9223372036854775807:=by omega
   have hcd:(!(snpB T).2||wsnp T !=B)= !snpOk B:=by rw [hok2,Bool.not_and];rfl
   cases ho:snpOk B with
   |true=>
    rw [ho] at hcd hsg
    refine' walkW (zp hTR hcd) (za zX <| za zdR <| za zbA <| za zaA <| zb _)
    rw [hsg]
    rfl
   |false=>
    rw [ho] at hcd hsg
    refine' walkW (zp hTR hcd) (za zX <| za zdR <| za zbA <| za zaA <| zb _)
    rw [hsg]
    rfl
  ·have hBz:B=z16:=by
    have:(B==z16)=true:=by
     rw [← hcl]
     rw [bne,Bool.not_eq_false'] at hc
     exact hc
    simpa using this
   have hT0:T=⟨0,0,[]⟩:=by rw [hT,snpT,if_pos hBz];rfl
   have hcd:(!(snpB T).2||wsnp T !=B)= !snpOk B:=by rw [hok2,Bool.not_and];rfl
   rw [hT0] at hcd hsg
   cases ho:snpOk B with
   |true=>
    rw [ho] at hcd hsg
    refine' walkW hcd (za zX <| za zdR <| za zbA <| za zaA <| zb _)
    rw [hsg]
    rfl
   |false=>
    rw [ho] at hcd hsg
    refine' walkW hcd (za zX <| za zdR <| za zbA <| za zaA <| zb _)
    rw [hsg]
    rfl
 ·have hb:(L.2 !=0)=true:=by simpa using he
  refine' walkW (zp hL.symm hb) (za zX <| za zdR <| za zbA <| za zaA <| zb _)
  rw [hsg,if_pos he]
  rfl
@[go_sem] noncomputable def za8:Ent Tryz.prog 230:= .ofL (consL zq (consL zw (consL (aggT (consL (intT .i64) (consL (intT .i64) (consL (zdn (.d (.int .i64 16))) (consL (fnT 192 nilL) (consL (fnT 231 nilL) nilL))))) (fun p=>p) (fun p=>p) (fun _=>rfl)) nilL))) (fun (d,p,(a,o,_,_,_,_),_)=>(DP d p)∧(0≤o)∧(o≤48)) (fun (d,p,(a,o,_,_,_,_),_)=> .tup [snpA (sgetA d p a o).1,.d (.int .i64 (sgetA d p a o).2)]) (fun (d,p,(a,o,_,_,_,_),_) hp=>⟨rfl,zpA d p a o hp.1 hp.2.1 hp.2.2⟩)
theorem zrM (i:Int) (hp:0≤i∧i<8):AC 181 [.d (.int .i64 i)] (.agg [.d (.int .i64 (2+i / 4)),.d (.int .i64 (i % 4*16)),.d (.int .i64 16),.fn (.func 192) [] [],.fn (.func 231) [] []]):=by
 obtain ⟨h0,h1⟩:=hp
 refine fbod Tryz.func181 Tryz.ntmps181 (fun base=>?_)
 have hq:=div4i h0 h1
 have hm:i.tmod 4=i % 4:=Int.tmod_eq_emod_of_nonneg h0
 have hw1:IntKind.i64.wrap (2+i / 4)=2+i / 4:=ze (by omega) (by omega)
 have hw2:IntKind.i64.wrap (i % 4*16)=i % 4*16:=ze (by omega) (by omega)
 refine' zc (z8 hq hm hw1 hw2)
@[go_sem] noncomputable def zaR:Ent Tryz.prog 181:= .m1 (intT .i64) zrM
theorem zlo {d:Disk} {p:Plan} {i:Nat} :sgetA d p (2+(i:Int) / 4) ((i:Int) % 4*16)=if (plook d p (2+((i / 4:Nat):Int))).2≠0 then (snp0,(plook d p (2+((i / 4:Nat):Int))).2) else if snpOk (slotB (plook d p (2+((i / 4:Nat):Int))).1 i) then (snpT (slotB (plook d p (2+((i / 4:Nat):Int))).1 i),0) else (snp0,14):=by
 have e1:(2+(i:Int) / 4)=2+((i / 4:Nat):Int):=by omega
 have e2:((i:Int) % 4*16+16).toNat=(i % 4+1)*16:=by omega
 have e3:((i:Int) % 4*16).toNat=i % 4*16:=by omega
 unfold sgetA slotB
 rw [e1,e2,e3]
theorem zpB (d:Disk) (p:Plan) (h:DP d p):ACall Tryz.prog 180 0 [diskA d,planA p,.d (.int .i64 8),.fn (.func 181) [] []] [] (fun r _=>r= .tup [.d (.sl 3 ((snaps d p).1.map snpD)),.d (.int .i64 (snaps d p).2)]):=by
 refine fbod Tryz.func180 Tryz.ntmps180 (fun base=>?_)
 refine' walkW fx (za za8 <| za zaR <| zb _)
 refine zcq 10 3 rfl ?_
 simp only [fresh,top,hget, ↓reduceIte]
 refine zk (fun q: { q:Nat×List Snp // q.1≤8∧q.2.length=q.1∧snaps d p=snapsK d p (8 - q.1) q.1 q.2 } =>⟨[(3,true,.fn (.func 181) [] []),(4,true,.vp 0 0),(5,true,.vp 1 0),(10,true,.osl 2 3 q.1.1 0 q.1.1),(14,true,.d (.int .i64 8)),(15,true,.d (.int .i64 q.1.1))],[(2,.arr 3 (q.1.2.map snpD)),(1,(.var [.d (.sl 1 (p.targets.map intD)),.d (.sl 1 (p.texts.map strD))])),(0,(.var [.d (.str d.data),.d (.sl 2 (d.cache.map putD)),.d (.int .i64 d.fuse),.d (.bool d.off),.d (.sl 1 (d.bad.map intD))]))],some []⟩) (fun q=>8 - q.1.1) ⟨(0,[]),Nat.zero_le 8,rfl,rfl⟩ le1 (fun q=>?_)
 obtain ⟨⟨i,l⟩,hi,hll,hf⟩:=q
 simp only at hi hll hf ⊢
 rcases Nat.lt_or_ge i 8 with hlt|hge
 ·have hcmp:decide ((i:Int)<8)=true:=decide_eq_true (by omega)
  have hwi:=zn (i:=i) (by omega)
  have hlm:(l.map snpD).length=i:=by rw [List.length_map,hll]
  have hsg:=zlo (d:=d) (p:=p) (i:=i)
  rw [zfo hlt,snapsK] at hf
  obtain ⟨S,hS⟩:∃S,S=sgetA d p (2+(i:Int) / 4) ((i:Int) % 4*16):=⟨_,rfl⟩
  rw [← hS] at hsg
  by_cases he:(plook d p (2+((i / 4:Nat):Int))).2=0
  ·rw [if_neg (by simpa using he)] at hf hsg
   cases ho:snpOk (slotB (plook d p (2+((i / 4:Nat):Int))).1 i) with
   |true=>
    rw [ho,if_pos rfl] at hf hsg
    have hb:(S.2 !=0)=false:=by rw [hsg];rfl
    have hf2:snaps d p=snapsK d p (8 - (i+1)) (i+1) (l++ [S.1]):=by rw [hf,hsg]
    refine' walkW (z8 hcmp hS.symm hb hlm) (za za8 <| za zaR <| zb _)
    all_goals first|omega|skip
    exact ⟨⟨(i+1,l++ [S.1]),by omega,by simp [hll],hf2⟩,by simp only [List.map_append];simp only [AS.le,leT,leH,zj,AsgK,AV.le,AV.leL,AObj.le,inH,idsT,idsH,AV.ids,AV.idsL,AV.idsR,AObj.ids,lk,hget,go_sem,aeq,aeq.aeqF,simprocAttr,hwi]<;>and_intros<;>rfl,by simp;omega⟩
   |false=>
    rw [ho,if_neg (by decide)] at hf hsg
    have hb:(S.2 !=0)=true:=by rw [hsg];rfl
    refine' walkW (zA hcmp hS.symm hb) (za za8 <| za zaR <| zb _)
    all_goals first|omega|skip
    rw [hf,hsg]
    rfl
  ·rw [if_pos he] at hf hsg
   have hb:(S.2 !=0)=true:=by rw [hsg];simpa using he
   refine' walkW (zA hcmp hS.symm hb) (za za8 <| za zaR <| zb _)
   all_goals first|omega|skip
   rw [hf,hsg]
   rfl
 ·have hcmp:decide ((i:Int)<8)=false:=decide_eq_false (by omega)
  refine' walkW hcmp (za za8 <| za zaR <| zb _)
  have him:i=8:=by omega
  subst him
  rw [if_pos hll.symm,List.take_of_length_le (by simp;omega),hf]
  rfl
@[go_sem] noncomputable def zlp:Ent Tryz.prog 180:= .ofL (consL zq (consL zw (consL (zdn (.d (.int .i64 8))) (consL (fnT 181 nilL) nilL)))) (fun (d,p,_,_,_)=>DP d p) (fun (d,p,_,_,_)=> .tup [.d (.sl 3 ((snaps d p).1.map snpD)),.d (.int .i64 (snaps d p).2)]) (fun (d,p,_,_,_) hp=>⟨rfl,zpB d p hp⟩)
theorem ztO (d:Disk) (p:Plan) (h:DP d p):AC 112 [diskA d,planA p] (.tup [.d (.sl 3 ((snaps d p).1.map snpD)),.d (.int .i64 (snaps d p).2)]):=by
 refine fbod Tryz.func112 Tryz.ntmps112 (fun base=>?_)
 refine' walkW fx (za zlp <| zb _)
@[go_sem] noncomputable def zgw:Ent Tryz.prog 112:= .m2 zq zw ztO
theorem zpC (d:Disk) (p:Plan) (i:Int) (s:Snp) (hp:DP d p∧0≤s.id∧s.id≤4294967295∧s.name.length≤9223372036854775807):AC 125 [diskA d,planA p,.d (.int .i64 i),snpA s] (.tup [planA (setsnap d p i s).1,.d (.int .i64 (setsnap d p i s).2)]):=by
 obtain ⟨h,h0,h1,hn⟩:=hp
 refine fbod Tryz.func125 Tryz.ntmps125 (fun base=>?_)
 have hd1:=h.dok
 have hd2:=h.puts
 have hd3:=h.p
 by_cases hi:i<0∨8≤i
 ·have hdec:(decide (i<0)||decide (8≤i))=true:=by simpa using hi
  refine' walkW hdec (za zaA <| za zaR <| za zaG <| zb _)
  rw [setsnap,if_pos hi]
 have hdec:(decide (i<0)||decide (8≤i))=false:=by simpa using hi
 cases ho:(snpB s).2 with
 |false=>
  refine' walkW (zp hdec ho) (za zaA <| za zaR <| za zaG <| zb _)
  rw [setsnap,if_neg hi,if_pos ho]
 |true=>
  have hws:=zrK ho
  have hbl:(snpB s).1.length≤9223372036854775807:=by have:=zod s;omega
  refine' walkW (zA hdec ho hws) (za zaA <| za zaR <| za zaG <| zb _)
  all_goals first|omega|skip
  rw [setsnap,if_neg hi,if_neg (by rw [ho];decide)]
@[go_sem] noncomputable def zcC:Ent Tryz.prog 125:= .m4 zq zw (intT .i64) zfK zpC
open Go Go.Proofs
def wkP (q:Plan) (g:Geom) (d:Disk) (e:Int):List AV:= [.d (.sl 1 (q.targets.map intD)),.d (.sl 1 (q.texts.map strD)),.d (.int .i64 g.guest),.d (.int .i64 g.host),.d (.str d.data),.d (.sl 2 (d.cache.map putD)),.d (.int .i64 d.fuse),.d (.bool d.off),.d (.sl 1 (d.bad.map intD)),.d (.int .i64 e)]
attribute [go_sem] wkP
theorem zum {fl fl':Nat} {f:FuncId} {caps:List AV} {h:AHeap} {K:AHeap→Prop} {q:Plan} {g:Geom} {d:Disk} {e:Int} (hfl:∀i,(hget h i).isSome→i<fl) (hle:fl'≤fl) (hw:hget h 5=some (.var (wkP q g d e)))
  (hk:∀h',K h'→∀i,(hget h i).isSome→(hget h' i).isSome)
  (h1:e≠0→K h)
  (h2:e=0→ACallAt Tryz.prog fl f caps h (fun r h'=>∃q' e',r= .tup [planA q',.d (.int .i64 e')]∧hget h' 5=some (.var (wkP q g d e))∧K (hset h' 5 (.var (wkP q' g d e'))))):
  ACallAt Tryz.prog fl' 235 [.vp 5 0,.fn (.func f) [] caps] h (fun r h'=>r= .tup []∧K h'):=by
 refine ACall.whole (fl:=fl) ?_ hfl hle (fun r h' hr=>hk h' hr.2)
 refine bod Tryz.func235 Tryz.ntmps235 (fun base=>?_)
 cases he:(e==0) with
 |false=>
  have he':e≠0:=by simpa using he
  simp only [wkP] at hw
  refine' zc (zp hw he)
  exact h1 he'
 |true=>
  have he':e=0:=by simpa using he
  have h2:=h2 he'
  simp only [wkP] at hw
  refine' zc (zp hw he)
  refine h2.mono ?_
  rintro r h' ⟨q',e',rfl,hw',hK⟩
  simp only [wkP] at hw'
  have hs1:∀o,hget (hset h' 5 o) 5=some o:=fun o=>zf hw'
  have hs2:∀a b,hset (hset h' 5 a) 5 b=hset h' 5 b:=fun a b=>zgs h' 5 a b
  simp only [go_sem,hw',hs1,hs2]
  refine' zc (zA hw' hs1 hs2)
structure Wk where
 q:Plan
 e:Int
def wcount (d:Disk) (s:Wk) (k by_:Int):Wk:=if s.e≠0 then s else ⟨(radd d s.q k by_).1,(radd d s.q k by_).2⟩
def wget (d:Disk) (s:Wk) (t i:Int):Ent2×Wk:=if s.e≠0 then (⟨0,0⟩,s) else ((eget d s.q t i).1,⟨s.q,(eget d s.q t i).2⟩)
@[go_sem] abbrev zob (g:Geom) (d:Disk) (s:Wk) (k by_:Int):AHeap:= [(42,.var [.d (.int .i64 by_)]),(41,.var [.d (.int .i64 k)]),(40,.var [.vp 5 0]),(5,.var (wkP s.q g d s.e))]
theorem zrD (g:Geom) (d:Disk) (s:Wk) (k by_:Int) (h:DP d s.q):ACall Tryz.prog 236 80 [.vp 40 0,.vp 41 0,.vp 42 0] (zob g d s k by_) (fun r h'=>r= .tup [planA (radd d s.q k by_).1,.d (.int .i64 (radd d s.q k by_).2)]∧h'=zob g d s k by_):=by
 refine zR (fun i=>decide (i<80)) ?_
 refine bod Tryz.func236 Tryz.ntmps236 (fun base=>?_)
 refine' walkW fx (za zbs <| za zlc <| za zfR <| za zaw <| za zeZ <| za zcx <| za zhY <| za zcm <| zb _)
theorem ztJ (g:Geom) (d:Disk) (s:Wk) (k by_:Int) (h:DP d s.q):ACall Tryz.prog 191 40 [.vp 5 0,.d (.int .i64 k),.d (.int .i64 by_)] [(5,.var (wkP s.q g d s.e))] (fun r h'=>∃ob',h'= [(5,ob')]∧r= .tup []∧ob'= .var (wkP (wcount d s k by_).q g d (wcount d s k by_).e)):=by
 refine zR (fun i=>decide (i<40)) ?_
 refine bod Tryz.func191 Tryz.ntmps191 (fun base=>?_)
 refine' zc fx
 refine (zum (fl:=60) (K:=fun h'=>(s.e≠0∧h'=zob g d s k by_)∨(s.e=0∧h'=hset (zob g d s k by_) 5 (.var (wkP (radd d s.q k by_).1 g d (radd d s.q k by_).2)))) (zat rfl) (by omega) rfl ?_ ?_ ?_).mono ?_
 ·rintro h' (⟨_,rfl⟩|⟨_,rfl⟩) i hi
  ·exact hi
  ·rw [zbi (by rfl)]
   revert hi
   simp only [hget]
   repeat' split
   all_goals simp
 ·intro he;exact .inl ⟨he,rfl⟩
 ·intro he
  refine ((zrD g d s k by_ h).whole (zat rfl) (by omega) (by
   rintro r h' ⟨_,rfl⟩ i hi
   revert hi
   simp only [hget]
   repeat' split
   all_goals simp)).mono ?_
  rintro r h' ⟨rfl,rfl⟩
  exact ⟨_,_,rfl,rfl,.inr ⟨he,rfl⟩⟩
 ·rintro r h' ⟨rfl,(⟨he,rfl⟩|⟨he,rfl⟩)⟩
  ·have hm:wcount d s k by_=s:=by rw [wcount,if_pos he]
   rw [hm]
   refine' zc fx
   all_goals first|rfl|exact ⟨_,rfl,rfl⟩|exact ⟨_,rfl,by rw [hm]⟩|skip
  ·have hm:wcount d s k by_=⟨(radd d s.q k by_).1,(radd d s.q k by_).2⟩:=by rw [wcount,if_neg (by rw [he];decide)]
   rw [hm]
   refine' zc fx
   all_goals first|rfl|exact ⟨_,rfl,rfl⟩|exact ⟨_,rfl,by rw [hm]⟩|skip
@[go_sem] abbrev hGet (g:Geom) (d:Disk) (s:Wk) (t i:Int):AHeap:= [(43,.var [.d (.int .i64 0),.d (.int .i64 0)]),(42,.var [.d (.int .i64 i)]),(41,.var [.d (.int .i64 t)]),(40,.var [.vp 5 0]),(5,.var (wkP s.q g d s.e))]
@[go_sem] abbrev hGet2 (g:Geom) (d:Disk) (s:Wk) (t i:Int):AHeap:= [(43,.var [.d (.int .i64 (eget d s.q t i).1.kind),.d (.int .i64 (eget d s.q t i).1.loc)]),(42,.var [.d (.int .i64 i)]),(41,.var [.d (.int .i64 t)]),(40,.var [.vp 5 0]),(5,.var (wkP s.q g d s.e))]
theorem zvh (g:Geom) (d:Disk) (s:Wk) (t i:Int) (h:DP d s.q):ACall Tryz.prog 263 80 [.vp 40 0,.vp 41 0,.vp 42 0,.vp 43 0] (hGet g d s t i) (fun r h'=>r= .tup [planA s.q,.d (.int .i64 (eget d s.q t i).2)]∧h'=hGet2 g d s t i):=by
 refine zR (fun i=>decide (i<80)) ?_
 refine bod Tryz.func263 Tryz.ntmps263 (fun base=>?_)
 refine' walkW fx (za zbs <| za zlc <| za zfR <| za zaw <| za zeZ <| za zcx <| za zhY <| za zcm <| zb _)
theorem zun (g:Geom) (d:Disk) (s:Wk) (t i:Int) (h:DP d s.q):ACall Tryz.prog 215 40 [.vp 5 0,.d (.int .i64 t),.d (.int .i64 i)] [(5,.var (wkP s.q g d s.e))] (fun r h'=>∃ob',h'= [(5,ob')]∧r=entA (wget d s t i).1∧ob'= .var (wkP ((wget d s t i).2).q g d ((wget d s t i).2).e)):=by
 refine zR (fun i=>decide (i<40)) ?_
 refine bod Tryz.func215 Tryz.ntmps215 (fun base=>?_)
 refine' zc fx
 refine (zum (fl:=60) (K:=fun h'=>(s.e≠0∧h'=hGet g d s t i)∨(s.e=0∧h'=hset (hGet2 g d s t i) 5 (.var (wkP s.q g d (eget d s.q t i).2)))) (zat rfl) (by omega) rfl ?_ ?_ ?_).mono ?_
 ·rintro h' (⟨_,rfl⟩|⟨_,rfl⟩) i hi
  ·exact hi
  ·rw [zbi (by rfl)]
   revert hi
   simp only [hget]
   repeat' split
   all_goals simp
 ·intro he;exact .inl ⟨he,rfl⟩
 ·intro he
  refine ((zvh g d s t i h).whole (zat rfl) (by omega) (by
   rintro r h' ⟨_,rfl⟩ i hi
   revert hi
   simp only [hget]
   repeat' split
   all_goals simp)).mono ?_
  rintro r h' ⟨rfl,rfl⟩
  exact ⟨_,_,rfl,rfl,.inr ⟨he,rfl⟩⟩
 ·rintro r h' ⟨rfl,(⟨he,rfl⟩|⟨he,rfl⟩)⟩
  ·have hm:wget d s t i=(⟨0,0⟩,s):=by rw [wget,if_pos he]
   refine' zc hm
   all_goals first|rfl|exact ⟨_,rfl,rfl⟩|exact ⟨_,rfl,by rw [hm]⟩|skip
  ·have hm:wget d s t i=((eget d s.q t i).1,⟨s.q,(eget d s.q t i).2⟩):=by rw [wget,if_neg (by rw [he];decide)]
   refine' zc hm
   all_goals first|rfl|exact ⟨_,rfl,rfl⟩|exact ⟨_,rfl,by rw [hm]⟩|skip
open Go Go.Proofs
open Go Go.Proofs
theorem DP.wcount {d:Disk} {s:Wk} (h:DP d s.q) (k b:Int):DP d (wcount d s k b).q:=by
 unfold Aw.wcount;split
 ·exact h
 ·exact h.radd _ _
open Go Go.Proofs
open Go Go.Proofs
structure Dmap where
 name:Txt
 inuse:Bool
 bits:List Bool
 deriving DecidableEq
def dmapD (m:Dmap):List D:= .str m.name:: .bool m.inuse::m.bits.map .bool
theorem zhR:∀ {a b:List Bool},a.map D.bool=b.map D.bool→a=b
 | [],[],_=>rfl
 | [],_::_,h=>by simp at h
 |_::_,[],h=>by simp at h
 |x::a,y::b,h=>by
  simp only [List.map_cons,List.cons.injEq,D.bool.injEq] at h
  rw [h.1,zhR h.2]
theorem zfP:∀a b,dmapD a=dmapD b→a=b:=by
 rintro ⟨n,u,b⟩ ⟨n',u',b'⟩ h
 simp only [dmapD,List.cons.injEq,D.str.injEq,D.bool.injEq] at h
 rw [h.1,h.2.1,zhR h.2.2]
structure Img where
 disk:Disk
 geom:Geom
 jour:Jour
 maps:List Dmap
 broken:Bool
 deriving DecidableEq
def imgA (x:Img):AV:= .agg [.d (.str x.disk.data),.d (.sl 2 (x.disk.cache.map putD)),.d (.int .i64 x.disk.fuse),.d (.bool x.disk.off),.d (.sl 1 (x.disk.bad.map intD)),.d (.int .i64 x.geom.guest),.d (.int .i64 x.geom.host),.d (.int .u64 x.jour.seq),.d (.int .i64 x.jour.pos),.d (.sl 66 (x.maps.map dmapD)),.d (.bool x.broken)]
attribute [go_sem] imgA
theorem zu8 (x:Img):Img.mk x.disk x.geom x.jour x.maps x.broken=x:=rfl
noncomputable def zbD:PT Img:=aggT (consL strT (consL (slT 2 putD zjw) (consL (intT .i64) (consL boolT (consL (slT 1 intD zcO) (consL (intT .i64) (consL (intT .i64) (consL (intT .u64) (consL (intT .i64) (consL (slT 66 dmapD zfP) (consL boolT nilL))))))))))) (fun p=>⟨⟨p.1,p.2.1,p.2.2.1,p.2.2.2.1,p.2.2.2.2.1⟩,⟨p.2.2.2.2.2.1,p.2.2.2.2.2.2.1⟩,⟨p.2.2.2.2.2.2.2.1,p.2.2.2.2.2.2.2.2.1⟩,p.2.2.2.2.2.2.2.2.2.1,p.2.2.2.2.2.2.2.2.2.2.1⟩) (fun x=>(x.disk.data,x.disk.cache,x.disk.fuse,x.disk.off,x.disk.bad,x.geom.guest,x.geom.host,x.jour.seq,x.jour.pos,x.maps,x.broken,())) (fun _=>rfl)
attribute [go_sem] zbD
attribute [go_sem] zu8
structure ImgOk (x:Img):Prop where
 disk:DiskOk x.disk
 maps:x.maps.length≤9223372036854775807
 names:∀m∈x.maps,m.name.length≤9223372036854775807
 bits:∀m∈x.maps,m.bits.length=64
def mfit (n0:Txt):Nat→List Dmap→Bool
 |_,[]=>true
 |i,m::r=>zar m.name&&m.inuse&& !(decide (0<i)&&(n0==m.name))&&mfit n0 (i+1) r
def ifit (x:Img):Bool:=
 zdH x.geom.guest x.geom.host&&dfit x.disk&&((dsize x.disk:Int)==zhD x.geom.guest x.geom.host)&&jfit x.jour&&decide (x.maps.length≤2)&&mfit (x.maps.head?.map (·.name) |>.getD []) 0 x.maps
theorem zrj (x:Img) (h:ImgOk x):AC 28 [imgA x] (.d (.bool (ifit x))):=by
 refine fbod Tryz.func28 Tryz.ntmps28 (fun base=>?_)
 have h1:=h.disk
 have h2:=h.maps
 by_cases hc0:(!zdH x.geom.guest x.geom.host|| !dfit x.disk||((dsize x.disk:Int) !=zhD x.geom.guest x.geom.host)|| !jfit x.jour||decide (2<(x.maps.length:Int)))=true
 ·refine' walkW hc0 (za zcT <| za zeO <| za zbb <| za zeR <| za zeT <| za zN <| zb _)
  have:ifit x=false:=by
   simp only [Bool.or_eq_true,Bool.not_eq_true',bne_iff_ne,decide_eq_true_eq] at hc0
   unfold ifit
   rcases hc0 with (((hh|hh)|hh)|hh)|hh
   ·rw [hh];simp
   ·rw [hh];simp
   ·rw [beq_eq_false_iff_ne.2 hh];simp
   ·rw [hh];simp
   ·rw [decide_eq_false (p:=x.maps.length≤2) (by omega)];simp
  rw [this]
 have hc0:(!zdH x.geom.guest x.geom.host|| !dfit x.disk||((dsize x.disk:Int) !=zhD x.geom.guest x.geom.host)|| !jfit x.jour||decide (2<(x.maps.length:Int)))=false:=by simpa using hc0
 have hfit:ifit x=mfit (x.maps.head?.map (·.name) |>.getD []) 0 x.maps:=by
  simp only [Bool.or_eq_false_iff,Bool.not_eq_false',bne_eq_false_iff_eq,decide_eq_false_iff_not] at hc0
  rw [ifit,hc0.1.1.1.1,hc0.1.1.1.2,hc0.1.2,beq_iff_eq.2 hc0.1.1.2,decide_eq_true (p:=x.maps.length≤2) (by omega)]
  rfl
 refine' walkW hc0 (za zcT <| za zeO <| za zbb <| za zeR <| za zeT <| za zN <| zb _)
 obtain ⟨N0,hN0⟩:∃N0,N0=(x.maps.head?.map (·.name) |>.getD []):=⟨_,rfl⟩
 rw [← hN0] at hfit
 refine zk (fun q: { i:Nat // i≤x.maps.length∧ifit x=mfit N0 i (x.maps.drop i) } =>⟨[(1,true,.vp 0 0),(3,true,.d (.int .i64 q.1))],[(0,.var [.d (.str x.disk.data),.d (.sl 2 (x.disk.cache.map putD)),.d (.int .i64 x.disk.fuse),.d (.bool x.disk.off),.d (.sl 1 (x.disk.bad.map intD)),.d (.int .i64 x.geom.guest),.d (.int .i64 x.geom.host),.d (.int .u64 x.jour.seq),.d (.int .i64 x.jour.pos),.d (.sl 66 (x.maps.map dmapD)),.d (.bool x.broken)])],some []⟩) (fun q=>x.maps.length - q.1) ⟨0,Nat.zero_le _,hfit⟩ le1 (fun q=>?_)
 obtain ⟨i,hi,hf⟩:=q
 simp only at hi hf ⊢
 rcases zM dmapD x.maps i hi with ⟨m,hq,hlt,hcmp,hrow,hdr,htk⟩|⟨hend,hcmp⟩
 ·obtain ⟨m0,hq0⟩:=zam (l:=x.maps) (i:=0) (by omega)
  have hrow0:=zbk (g:=dmapD) hq0
  simp only [dmapD] at hrow hrow0
  have hpos:decide ((0:Int)<(x.maps.length:Int))=true:=decide_eq_true (by omega)
  have hwi:=zn (i:=i) (by omega)
  have hnl:=h.names m (List.mem_of_getElem? hq)
  have hN:N0=m0.name:=by rw [hN0,List.head?_eq_getElem?,hq0];rfl
  rw [hdr,mfit,hN] at hf
  have hall:(!zar m.name|| !m.inuse||(decide ((0:Int)<(i:Int))&&(m0.name==m.name)))= !(zar m.name&&m.inuse&& !(decide (0<i)&&(m0.name==m.name))):=by
   rw [Bool.not_and,Bool.not_and,Bool.not_not,show decide ((0:Int)<(i:Int))=decide (0<i) from zvZ]
  refine' walkW (zbQ hcmp hrow hrow0 hpos natC) (za zcT <| za zeO <| za zbb <| za zeR <| za zeT <| za zN <| zb _)
  ·rename_i hg0
   rw [hg0,hc];rfl
  ·rw [hall] at hc
   simp only [Bool.not_eq_true'] at hc
   rw [hf,hc,Bool.false_and]
  ·rw [hall] at hc
   simp only [Bool.not_eq_false'] at hc
   rw [hc,Bool.true_and,← hN] at hf
   exact ⟨⟨i+1,by omega,hf⟩,lew,by simp;omega⟩
 ·refine' walkW hcmp (za zcT <| za zeO <| za zbb <| za zeR <| za zeT <| za zN <| zb _)
  rw [hf,hend,List.drop_length]
  rfl
@[go_sem] noncomputable def zmE:Ent Tryz.prog 28:= .m1 zbD zrj
theorem ztp {n:Nat} {a b:List Bool} (ha:a.length=n) (hb:b.length=n):((List.range n).all fun i=>a.getD i false==b.getD i false)=decide (a=b):=by
 rw [Bool.eq_iff_iff,List.all_eq_true,decide_eq_true_eq]
 constructor
 ·intro h
  apply List.ext_getElem (by omega)
  intro i h1 h2
  have:=h i (by simp;omega)
  simpa [List.getD_eq_getElem?_getD,h1,h2] using this
 ·rintro rfl i _
  simp
theorem ziX {P:Program} {e:Nat} (he:(ty P e).td= .bool) {a b:List Bool} {n d:Nat} (ha:a.length=n) (hb:b.length=n):∀l:List Nat,(∀i∈l,i<n)→
  aeq.aeqF P (l.map fun i=>(i,e)) (a.map fun x=>AV.d (.bool x)) (b.map fun x=>AV.d (.bool x)) (fun f=>aeq P (d+1) f)=(True,l.all fun i=>a.getD i false==b.getD i false)
 | [],_=>rfl
 | i::l,h=>by
  have ih:=ziX he ha hb (d:=d) l (fun j hj=>h j (by simp [hj]))
  have hi:i<n:=h i (by simp)
  have hx:∀ (c:List Bool),c.length=n→apart P e (c.map fun x=>AV.d (.bool x)) i= .d (.bool (c.getD i false)):=fun c hc=>by
   unfold apart
   rw [he]
   simp [TD.agg,List.getD_eq_getElem?_getD,hc,hi]
  simp only [List.map_cons,aeq.aeqF,ih,hx a ha,hx b hb]
  have h1:aeq P (d+1) e (.d (.bool (a.getD i false))) (.d (.bool (b.getD i false)))=(True,a.getD i false==b.getD i false):=by
   unfold aeq
   rw [he]
  rw [h1]
  have hp:psize P e=1:=by unfold psize;rw [he];rfl
  simp only [he,hp,List.length_map,ha,hb,List.all_cons,ne_eq,reduceCtorEq,not_false_eq_true,true_and,and_true]
  rw [eq_true (show i+1≤n∧i+1≤n from ⟨hi,hi⟩)]
theorem ztq {P:Program} {t e:Nat} (ht:(ty P t).td= .arr 64 e) (he:(ty P e).td= .bool) (hz:(ty P e).size=1) {a b:List Bool} {d:Nat} (ha:a.length=64) (hb:b.length=64):
  aeq P (d+2) t (.agg (a.map fun x=>AV.d (.bool x))) (.agg (b.map fun x=>AV.d (.bool x)))=(True,decide (a=b)):=by
 have:=ziX he ha hb (d:=d) (List.range 64) (fun i hi=>by simpa using hi)
 unfold aeq
 simp only [ht,hz,Nat.mul_one]
 rw [this,ztp ha hb]
 simp only [he,ne_eq,reduceCtorEq,not_false_eq_true,and_true]
theorem zn6 (l:List Bool):(l.map D.bool).map AV.d=l.map fun x=>AV.d (.bool x):=by rw [List.map_map];rfl
open Go Go.Proofs
theorem ztr {P:Program} {t s b a e:Nat} (ht:(ty P t).td= .struct [(0,s),(1,b),(2,a)]) (hs:(ty P s).td= .str) (hb:(ty P b).td= .bool) (ha:(ty P a).td= .arr 64 e) (he:(ty P e).td= .bool) (hz:(ty P e).size=1) (hza:(ty P a).size=64) (hst:P.stoodInHeld t=false)
  {m m':Dmap} (hm:m.bits.length=64) (hm':m'.bits.length=64):
  aeq P 12 t (.agg (.d (.str m.name):: .d (.bool m.inuse)::(m.bits.map D.bool).map AV.d)) (.agg (.d (.str m'.name):: .d (.bool m'.inuse)::(m'.bits.map D.bool).map AV.d))=(True,decide (m=m')):=by
 have h1:=ztq (P:=P) (t:=a) ha he hz (d:=9) hm hm'
 have hl:∀c:List Bool,c.length=64→List.take 64 (c.map fun x=>AV.d (.bool x))=c.map fun x=>AV.d (.bool x):=fun c hc=>List.take_of_length_le (by simp [hc])
 rw [zn6,zn6]
 have p0:∀c:Dmap,apart P s (.d (.str c.name):: .d (.bool c.inuse)::(c.bits.map fun x=>AV.d (.bool x))) 0= .d (.str c.name):=fun c=>by unfold apart;rw [hs];rfl
 have p1:∀c:Dmap,apart P b (.d (.str c.name):: .d (.bool c.inuse)::(c.bits.map fun x=>AV.d (.bool x))) 1= .d (.bool c.inuse):=fun c=>by unfold apart;rw [hb];rfl
 have p2:∀c:Dmap,c.bits.length=64→apart P a (.d (.str c.name):: .d (.bool c.inuse)::(c.bits.map fun x=>AV.d (.bool x))) 2= .agg (c.bits.map fun x=>AV.d (.bool x)):=fun c hc=>by
  unfold apart
  rw [ha,hza]
  simp only [TD.agg,if_true,List.drop_succ_cons,List.drop_zero,hl c.bits hc]
 have q0:psize P s=1:=by unfold psize;rw [hs];rfl
 have q1:psize P b=1:=by unfold psize;rw [hb];rfl
 have q2:psize P a=64:=by unfold psize;rw [ha,hza];rfl
 have e0:aeq P 11 s (.d (.str m.name)) (.d (.str m'.name))=(True,m.name==m'.name):=by unfold aeq;rw [hs]
 have e1:aeq P 11 b (.d (.bool m.inuse)) (.d (.bool m'.inuse))=(True,m.inuse==m'.inuse):=by unfold aeq;rw [hb]
 unfold aeq
 simp only [ht,hst,aeq.aeqF,p0,p1,p2 m hm,p2 m' hm',q0,q1,q2,e0,e1,h1,hs,hb,ha,List.length_cons,List.length_map,hm,hm',ne_eq,reduceCtorEq,not_false_eq_true,true_and,and_true,Bool.and_true]
 refine Prod.ext (by simp) ?_
 simp only
 rw [Bool.eq_iff_iff]
 simp only [Bool.and_eq_true,beq_iff_eq,decide_eq_true_eq]
 obtain ⟨n,u,l⟩:=m
 obtain ⟨n',u',l'⟩:=m'
 simp
theorem zk1 (a b:List Dmap) (hp:a.length≤9223372036854775807∧b.length≤9223372036854775807∧(∀m∈a,m.bits.length=64)∧(∀m∈b,m.bits.length=64)):AC 64 [.d (.sl 66 (a.map dmapD)),.d (.sl 66 (b.map dmapD))] (.d (.bool (decide (a=b)))):=by
 obtain ⟨ha,hb,hla,hlb⟩:=hp
 refine fbod Tryz.func64 Tryz.ntmps64 (fun base=>?_)
 by_cases hl:a.length=b.length
 ·have hb0:((a.length:Int) !=(b.length:Int))=false:=by rw [hl];simp
  refine' zc hb0
  refine zk (fun q: { i:Nat // i≤a.length∧decide (a=b)=decide (a.drop i=b.drop i) } =>⟨[(0,true,.d (.sl 66 (a.map dmapD))),(1,true,.d (.sl 66 (b.map dmapD))),(5,true,.d (.int .i64 q.1))],[],some []⟩) (fun q=>a.length - q.1) ⟨0,Nat.zero_le _,rfl⟩ le1 (fun q=>?_)
  obtain ⟨i,hi,hf⟩:=q
  simp only at hi hf ⊢
  rcases zM dmapD a i hi with ⟨m,hq,hlt,hcmp,hrow,hdr,htk⟩|⟨hend,hcmp⟩
  ·obtain ⟨m',hq'⟩:=zam (l:=b) (i:=i) (by omega)
   have hrow':=zbk (g:=dmapD) hq'
   simp only [dmapD] at hrow hrow'
   have hcmp':decide ((i:Int)<(b.length:Int))=true:=by rw [← hl];exact hcmp
   have hwi:=zn (i:=i) (by omega)
   have hm:=hla m (List.mem_of_getElem? hq)
   have hm':=hlb m' (List.mem_of_getElem? hq')
   rw [hdr,zcF hq'] at hf
   have hae:=ztr (P:=Tryz.prog) (t:=150) (s:=9) (b:=4) (a:=148) (e:=4) (by simp only [go_sem]) (by simp only [go_sem]) (by simp only [go_sem]) (by simp only [go_sem]) (by simp only [go_sem]) (by simp only [go_sem]) (by simp only [go_sem]) (by kernel_rfl) hm hm'
   have ht1:List.take 64 ((m.bits.map D.bool).map AV.d)=(m.bits.map D.bool).map AV.d:=List.take_of_length_le (by simp [hm])
   have ht2:List.take 64 ((m'.bits.map D.bool).map AV.d)=(m'.bits.map D.bool).map AV.d:=List.take_of_length_le (by simp [hm'])
   (have tk:=zb Tryz.prog);repeat' (first|((first|(refine sa ?_;intro K hK)|refine sb ?_);simp only [go_sem,simprocAttr,hcmp,hcmp',hrow,hrow',ht1,ht2,hae,hm,hm',Int.toNat_natCast,Tryz.results64])|refine zaD (fun K hK=>?_)|refine sc ?_|refine za5 rfl (fun hc=>?_) (fun hc=>?_)|(refine hK _ ?_;clear hK K)|with_reducible refine And.intro ?_ ?_|(refine (show zdb _ _=true from ?_);kernel_rfl)|omega|assumption|clear hK K)
   ·rw [hf]
    simp only [Bool.not_eq_true',decide_eq_false_iff_not] at hc
    rw [decide_eq_false]
    simp only [List.cons.injEq]
    exact fun h=>hc h.1
   ·simp only [Bool.not_eq_false',decide_eq_true_eq] at hc
    refine ⟨⟨i+1,by omega,?_⟩,lew,by simp;omega⟩
    rw [hf,hc]
    simp
  ·refine' zc hcmp
   rw [hf,List.drop_of_length_le (by omega),List.drop_of_length_le (by omega)]
   rfl
 ·have hb0:((a.length:Int) !=(b.length:Int))=true:=by rw [bne_iff_ne];omega
  refine' zc hb0
  rw [decide_eq_false (fun h=>hl (by rw [h]))]
@[go_sem] noncomputable def zio:Ent Tryz.prog 64:= .m2 (slT 66 dmapD zfP) (slT 66 dmapD zfP) zk1
end Go.Aw
