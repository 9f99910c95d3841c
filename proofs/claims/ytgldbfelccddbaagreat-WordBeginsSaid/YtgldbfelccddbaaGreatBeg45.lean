/-
 The law WordBegins.
-/
import Derived.Test.YtgldbfelccddbaaGreatBeg23
import Derived.Test.YtgldbfelccddbaaGreatBeg44
set_option maxRecDepth 100000
set_option maxHeartbeats 2000000
set_option linter.unusedSimpArgs false
set_option linter.unusedVariables false
namespace Go.Aw
open Go Go.Proofs
def xp512:Xp:=⟨512,[]⟩
theorem znn (s:Txt) (b:Bool) (h:wacc xp512 [] s=(b,[])) (hs:s.length≤20000):ACall Tryz.prog 10 0 [.d (.str []),.d (.str s),.agg [.d (.int .u64 512),.d (.sl 1 [])]] [] (fun r _=>r= .tup [.d (.bool b),.d (.sl 1 [])]):=by
 have:=zh4 xp512 [] s ⟨by decide,by decide⟩ (by decide) (by intro t ht;cases ht) (by decide) hs
 rw [h] at this
 exact this
theorem zpS:ACall Tryz.prog 10 0 [.d (.str []),.d (.str [78,66,68,77,65,71,73,67,73,72,65,86,69,79,80,84,0,3]),.agg [.d (.int .u64 512),.d (.sl 1 [])]] [] (fun r _=>r= .tup [.d (.bool true),.d (.sl 1 [])]):=by
 exact znn _ true (by decide+kernel) (by decide)
theorem zpT:ACall Tryz.prog 10 0 [.d (.str []),.d (.str [78,66,68]),.agg [.d (.int .u64 512),.d (.sl 1 [])]] [] (fun r _=>r= .tup [.d (.bool true),.d (.sl 1 [])]):=by
 exact znn _ true (by decide+kernel) (by decide)
theorem zpU:ACall Tryz.prog 10 0 [.d (.str []),.d (.str [120]),.agg [.d (.int .u64 512),.d (.sl 1 [])]] [] (fun r _=>r= .tup [.d (.bool false),.d (.sl 1 [])]):=by
 exact znn _ false (by decide+kernel) (by decide)
@[go_sem] noncomputable def zno:Ent Tryz.prog 10:= .ofL (consL (zac (.d (.str []))) (consL (zac (.d (.str [78,66,68,77,65,71,73,67,73,72,65,86,69,79,80,84,0,3]))) (consL (aggT (consL (zac (.d (.int .u64 512))) (consL (zac (.d (.sl 1 []))) nilL)) (fun p=>p) (fun p=>p) (fun _=>rfl)) nilL))) (fun (_,_,(_,_,_),_)=>True) (fun (_,_,(_,_,_),_)=> .tup [.d (.bool true),.d (.sl 1 [])]) (fun (_,_,(_,_,_),_) hp=>⟨rfl,zpS⟩)
@[go_sem] noncomputable def znp:Ent Tryz.prog 10:= .ofL (consL (zac (.d (.str []))) (consL (zac (.d (.str [78,66,68]))) (consL (aggT (consL (zac (.d (.int .u64 512))) (consL (zac (.d (.sl 1 []))) nilL)) (fun p=>p) (fun p=>p) (fun _=>rfl)) nilL))) (fun (_,_,(_,_,_),_)=>True) (fun (_,_,(_,_,_),_)=> .tup [.d (.bool true),.d (.sl 1 [])]) (fun (_,_,(_,_,_),_) hp=>⟨rfl,zpT⟩)
@[go_sem] noncomputable def znq:Ent Tryz.prog 10:= .ofL (consL (zac (.d (.str []))) (consL (zac (.d (.str [120]))) (consL (aggT (consL (zac (.d (.int .u64 512))) (consL (zac (.d (.sl 1 []))) nilL)) (fun p=>p) (fun p=>p) (fun _=>rfl)) nilL))) (fun (_,_,(_,_,_),_)=>True) (fun (_,_,(_,_,_),_)=> .tup [.d (.bool false),.d (.sl 1 [])]) (fun (_,_,(_,_,_),_) hp=>⟨rfl,zpU⟩)
theorem znr:ACall Tryz.prog 9 0 [] [] (fun r _=>r= .d (.bool true)):=by
 refine bod Tryz.func9 Tryz.ntmps9 (fun base=>?_)
 have hgs:greetS= [78,66,68,77,65,71,73,67,73,72,65,86,69,79,80,84,0,3]:=rfl
 refine' zeH (zP 3) hgs (zb ze1 <| zb zno <| za _)
 refine' zeH (zP 4) fx (zb znp <| za _)
 refine' walkW fx (zb znq <| za _)
@[go_sem] noncomputable def zcW:Ent Tryz.prog 9:= .ofL nilL (fun _=>True) (fun _=> .d (.bool true)) (fun _ hp=>⟨rfl,znr⟩)
theorem zfk (x:Xp) (sent said:Txt) (cut:Int) (hx:XpOk x) (hn:x.names.length≤9223372036854775807) (hl:∀s∈x.names,s.length≤9223372036854775807) (hs:sent.length≤140737488355328) (hd:said.length≤140737488355328):ACall Tryz.prog 3 0 [xpA x,.d (.str sent),.d (.str said),.d (.int .i64 cut)] [] (fun r _=>r= .d (.bool true)):=by
 refine bod Tryz.func3 Tryz.ntmps3 (fun base=>?_)
 cases hg:goodB x sent said with
 |false=>refine' walkW hg (zb zcu <| zb zcW <| zb zcV <| za _)
 | true=>
  have hg':=hg
  simp only [goodB,Bool.and_eq_true,decide_eq_true_eq] at hg'
  obtain ⟨g1,g2,g3,g4⟩:=hg'
  have hnn:∀t∈x.names,t.length≤1000:=fun t ht=>by
   have:=List.all_eq_true.1 g1 t ht
   simp only [zcw,Bool.and_eq_true,decide_eq_true_eq] at this
   omega
  have hs2:sent.length≤20000:=g2
  have hd2:said.length≤20000:=by omega
  refine' zeH (zP 4) hg (zb zcu <| zb zcW <| zb zcV <| za _)
  obtain ⟨A,hA⟩:∃A,A=wacc x sent said:=⟨_,rfl⟩
  rw [← hA]
  refine aw_le ⟨[(9,true,.d (.bool A.1)),(1,true,.d (.str sent)),(2,true,.d (.str said)),(3,true,.d (.int .i64 cut)),(4,true,.vp 0 0)],[(0,.var [.d (.int .u64 x.size),.d (.sl 1 (x.names.map strD))])],some []⟩ le1 ?_
  have hl1:=zp (i:=said.length) (by omega)
  have hl2:IntKind.u64.wrap ((said.length+1:Nat):Int)=((said.length+1:Nat):Int):=by rw [IntKind.wrap_u64];omega
  have hu0:0≤IntKind.u64.wrap cut:=by rw [IntKind.wrap_u64];omega
  obtain ⟨k,hk,hks⟩:∃k:Nat,IntKind.i64.wrap ((IntKind.u64.wrap cut).tmod ((said.length+1:Nat):Int))=(k:Int)∧k≤said.length:=by
   have e1:=Int.tmod_eq_emod_of_nonneg (b:=((said.length+1:Nat):Int)) hu0
   have e2:=Int.emod_nonneg (IntKind.u64.wrap cut) (b:=((said.length+1:Nat):Int)) (by omega)
   have e3:=Int.emod_lt_of_pos (IntKind.u64.wrap cut) (b:=((said.length+1:Nat):Int)) (by omega)
   refine ⟨((IntKind.u64.wrap cut) % ((said.length+1:Nat):Int)).toNat,?_,by omega⟩
   rw [e1,zf (by omega) (by omega)]
   omega
  have hd3:(said.take k).length≤20000:=by rw [List.length_take];omega
  obtain ⟨B,hB⟩:∃B,B=wacc x sent (said.take k):=⟨_,rfl⟩
  have hAB:A.1=true→B.1=true:=fun h=>by
   rw [hB]
   exact zok (zhR g4 hs2) k (by rw [← hA];exact h)
  refine' walkW (z7 hl1 hl2 hk hB.symm) (zb zcu <| zb zcW <| zb zcV <| za _)
  cases ha:A.1 with
  |false=>rfl
  |true=>rw [hAB ha];rfl
end Go.Aw
