/-
 What can be looked at: names that can be, texts that are not long.
-/
import Derived.Test.YtgldbfelccddbaaGreatBeg12
set_option maxRecDepth 100000
set_option maxHeartbeats 2000000
set_option linter.unusedSimpArgs false
set_option linter.unusedVariables false
namespace Go.Aw
open Go Go.Proofs
def goodB (x:Xp) (a b:Txt):Bool:=x.names.all zcw&&(decide (a.length≤20000)&&(decide (a.length+b.length≤20000)&&decide (x.names.length≤2)))
theorem zoy (x:Xp) (a b:Txt) (hn:x.names.length≤9223372036854775807) (hl:∀s∈x.names,s.length≤9223372036854775807) (ha:a.length≤140737488355328) (hb:b.length≤140737488355328):ACall Tryz.prog 8 0 [xpA x,.d (.sl 1 [[.str a],[.str b]])] [] (fun r _=>r= .d (.bool (goodB x a b))):=by
 refine fbod Tryz.func8 Tryz.ntmps8 (fun base=>?_)
 refine' zc fx
 refine zt (fun q: { i:Nat // i≤x.names.length∧x.names.all zcw=(x.names.drop i).all zcw } =>⟨[(1,true,.d (.sl 1 [[.str a],[.str b]])),(2,true,.vp 0 0),(11,true,.d (.sl 1 (x.names.map strD))),(12,true,.d (.int .i64 x.names.length)),(13,true,.d (.int .i64 q.1))],[(0,.var [.d (.int .u64 x.size),.d (.sl 1 (x.names.map strD))])],some []⟩) (fun q=>x.names.length - q.1) ⟨0,Nat.zero_le _,rfl⟩ le1 (fun q=>?_)
 obtain ⟨i,hi,hf⟩:=q
 simp only at hi hf ⊢
 rcases zaw strD x.names i hi with ⟨m,hq,hlt,hcmp,hrow,hdr,htk⟩|⟨hend,hcmp⟩
 ·simp only [strD] at hrow
  have hml:=hl m (List.mem_of_getElem? hq)
  have hwi:=zp (i:=i) (by omega)
  rw [hdr,List.all_cons] at hf
  cases hm:zcw m with
  |false=>
   refine' walkW (zF hcmp hrow hm) (zb zae <| za _)
   rw [goodB,hf,hm];rfl
  |true=>
   rw [hm,Bool.true_and] at hf
   refine' walkW (zF hcmp hrow hm) (zb zae <| za _)
   exact ⟨⟨i+1,by omega,hf⟩,lew,by simp;omega⟩
 ·have hall:x.names.all zcw=true:=by rw [hf,hend,List.drop_length];rfl
  have hwa:IntKind.i64.wrap (0+(a.length:Int))=(a.length:Nat):=by rw [Int.zero_add];exact zf (by omega) (by omega)
  have hwb:IntKind.i64.wrap ((a.length:Int)+(b.length:Int))=((a.length+b.length:Nat):Int):=by rw [zf (by omega) (by omega)];omega
  have hw1:IntKind.i64.wrap 1=1:=by decide
  have hw2:IntKind.i64.wrap 2=2:=by decide
  have hneg:∀k:Nat,decide ((k:Int)<0)=false:=fun k=>decide_eq_false (by omega)
  refine' walkW hcmp (zb zae <| za _)
  refine zt (fun q: { q:Nat×Nat // q.1=0∧q.2=0∨q.1=1∧q.2=a.length∧a.length≤20000∨q.1=2∧q.2=a.length+b.length∧a.length+b.length≤20000 } =>⟨[(2,true,.vp 0 0),(7,true,.d (.int .i64 q.1.2)),(21,true,.d (.sl 1 [[.str a],[.str b]])),(22,true,.d (.int .i64 2)),(23,true,.d (.int .i64 q.1.1))],[(0,.var [.d (.int .u64 x.size),.d (.sl 1 (x.names.map strD))])],some []⟩) (fun q=>2 - q.1.1) ⟨(0,0),.inl ⟨rfl,rfl⟩⟩ le1 (fun q=>?_)
  obtain ⟨⟨i,k⟩,hi⟩:=q
  simp only at hi ⊢
  rcases hi with ⟨rfl,rfl⟩|⟨rfl,rfl,hle⟩|⟨rfl,rfl,hle⟩
  ·rcases Nat.lt_or_ge 20000 a.length with h2|h2
   ·have hgt:decide ((20000:Int)<(a.length:Int))=true:=decide_eq_true (by omega)
    refine' walkW (zF hwa hgt @natC) (zb zae <| za _)
    rw [goodB,decide_eq_false (p:=a.length≤20000) (by omega)];simp
   ·have hgt:decide ((20000:Int)<(a.length:Int))=false:=decide_eq_false (by omega)
    refine' walkW (z7 hwa hgt (hneg a.length) @natC) (zb zae <| za _)
    exact ⟨⟨(1,a.length),.inr (.inl ⟨rfl,rfl,h2⟩)⟩,by simp only [AS.le,leT,leH,zh,AsgK,AV.le,AV.leL,AObj.le,inH,idsT,idsH,AV.ids,AV.idsL,AV.idsR,AObj.ids,lk,hget,go_sem,aeq,aeq.aeqF,simprocAttr,hw1],by simp⟩
  ·rcases Nat.lt_or_ge 20000 (a.length+b.length) with h2|h2
   ·have hgt:decide ((20000:Int)<((a.length+b.length:Nat):Int))=true:=decide_eq_true (by omega)
    refine' walkW (zu hwb hgt) (zb zae <| za _)
    rw [goodB,decide_eq_false (p:=a.length+b.length≤20000) (by omega)];simp
   ·have hgt:decide ((20000:Int)<((a.length+b.length:Nat):Int))=false:=decide_eq_false (by omega)
    refine' walkW (zF hwb hgt (hneg (a.length+b.length))) (zb zae <| za _)
    exact ⟨⟨(2,a.length+b.length),.inr (.inr ⟨rfl,rfl,h2⟩)⟩,by simp only [AS.le,leT,leH,zh,AsgK,AV.le,AV.leL,AObj.le,inH,idsT,idsH,AV.ids,AV.idsL,AV.idsR,AObj.ids,lk,hget,go_sem,aeq,aeq.aeqF,simprocAttr,hw2],by simp⟩
  ·refine' walkW fx (zb zae <| za _)
   rw [goodB,hall,decide_eq_true hle,decide_eq_true (p:=a.length≤20000) (by omega)]
   simp
   omega
noncomputable def zcu:Ent Tryz.prog 8:=Ent.of 8 (fun x:(Xp)×(Txt)×(Txt)=>(fun (x:Xp) (a:Txt) (b:Txt)=>([xpA x,.d (.sl 1 [[.str a],[.str b]])]:List AV)) x.1 x.2.1 x.2.2) (fun x:(Xp)×(Txt)×(Txt)=>(fun (x:Xp) (a:Txt) (b:Txt)=>((x.names.length≤9223372036854775807)∧(∀s∈x.names,s.length≤9223372036854775807)∧(a.length≤140737488355328)∧(b.length≤140737488355328):Prop)) x.1 x.2.1 x.2.2) (fun x:(Xp)×(Txt)×(Txt)=>(fun (x:Xp) (a:Txt) (b:Txt)=>(.d (.bool (goodB x a b)):AV)) x.1 x.2.1 x.2.2) (fun x hp=>⟨rfl,zoy x.1 x.2.1 x.2.2 hp.1 hp.2.1 hp.2.2.1 hp.2.2.2⟩)
theorem zla:∀x y:(Xp)×(Txt)×(Txt),(fun x:(Xp)×(Txt)×(Txt)=>(fun (x:Xp) (a:Txt) (b:Txt)=>([xpA x,.d (.sl 1 [[.str a],[.str b]])]:List AV)) x.1 x.2.1 x.2.2) x=(fun x:(Xp)×(Txt)×(Txt)=>(fun (x:Xp) (a:Txt) (b:Txt)=>([xpA x,.d (.sl 1 [[.str a],[.str b]])]:List AV)) x.1 x.2.1 x.2.2) y→x=y:=by
 intro x y h
 obtain ⟨⟨_,_⟩,_,_⟩:=x
 obtain ⟨⟨_,_⟩,_,_⟩:=y
 simpa only [xpA,Xp.mk.injEq,List.cons.injEq,AV.d.injEq,AV.agg.injEq,AV.dp.injEq,AV.fn.injEq,AV.tup.injEq,AV.asl.injEq,Int.natCast_inj,D.int.injEq,D.str.injEq,D.bool.injEq,D.sl.injEq,Prod.mk.injEq,and_true,true_and,and_assoc,zis zcp] using h
@[go_sem] theorem zpR (x_size:Int) (x_names:List Txt) (a:Txt) (b:Txt):(zcu).e [.agg [.d (.int .u64 x_size),.d (.sl 1 (x_names.map strD))],.d (.sl 1 [[.str a],[.str b]])]=some (((Xp.mk x_size x_names).names.length≤9223372036854775807)∧(∀s∈(Xp.mk x_size x_names).names,s.length≤9223372036854775807)∧(a.length≤140737488355328)∧(b.length≤140737488355328),.d (.bool (goodB (Xp.mk x_size x_names) a b))):=Ent.of_app zla ((Xp.mk x_size x_names),a,b)
end Go.Aw
