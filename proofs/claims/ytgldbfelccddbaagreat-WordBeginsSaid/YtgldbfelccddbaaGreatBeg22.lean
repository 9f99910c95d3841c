/-
 The readers of options: what they take off, and what they throw.
-/
import Derived.Test.YtgldbfelccddbaaGreatBeg12
set_option maxRecDepth 100000
set_option maxHeartbeats 2000000
set_option linter.unusedSimpArgs false
set_option linter.unusedVariables false
namespace Go.Aw
open Go Go.Proofs
abbrev rdH (s:Txt):AHeap:= [(4,.var [.d (.str s)])]
abbrev thrown (e:Int):Value:= .iface 416 (.int .i64 e)
theorem zdK {s t:Txt} {h':AHeap} {i:Nat} (e:h'=rdH t) (h:(hget (rdH s) i).isSome):(hget h' i).isSome:=by
 subst e
 simp only [hget] at h ⊢
 split at h<;>simp_all
theorem zgH (s:Txt) (n:Nat) (hs:s.length≤9223372036854775807) (h:n≤s.length):ACall Tryz.prog 293 5 [.vp 4 0,.d (.int .i64 n)] (rdH s) (fun r h'=>r= .d (.str (s.take n))∧h'=rdH (s.drop n)):=by
 refine bod Tryz.func293 Tryz.ntmps293 (fun base=>?_)
 have hc:decide ((s.length:Int)<n)=false:=decide_eq_false (by omega)
 refine' zc hc
theorem zeW (s:Txt) (n:Nat) (h:s.length<n):APan Tryz.prog 293 5 [.vp 4 0,.d (.int .i64 n)] (rdH s) (thrown 22):=by
 refine pbod Tryz.func293 Tryz.ntmps293 (fun base=>?_)
 have hc:decide ((s.length:Int)<n)=true:=decide_eq_true (by omega)
 refine' zar (zP 2) hc
 refine zcr noTab (za _) 1 (fun _=>by rfl) ?_
 simp only [go_sem,aeq,aeq.aeqF,simprocAttr]
 rfl
abbrev optHL:Txt:= [73,72,65,86,69,79,80,84]
theorem zjR (s:Txt) (hs:s.length≤9223372036854775807) (h:8≤s.length) (he:s.take 8=optHd):ACall Tryz.prog 235 5 [.vp 4 0,.d (.str [73,72,65,86,69,79,80,84])] (rdH s) (fun r h'=>r= .tup []∧h'=rdH (s.drop 8)):=by
 refine bod Tryz.func235 Tryz.ntmps235 (fun base=>?_)
 have hmn:imin 8 (s.length:Int)=8:=by unfold imin;split<;>omega
 have hc:(s.take 8 !=([73,72,65,86,69,79,80,84]:Txt))=false:=by rw [he];decide
 refine' zc (zu hmn hc)
 refine ((zgH s 8 hs h).whole (zat rfl) (Nat.le_refl _) (fun _ _ hk _=>zdK hk.2)).mono ?_
 rintro r h' ⟨rfl,rfl⟩
 simp only [go_sem,aeq,aeq.aeqF,simprocAttr]
theorem zmK (s:Txt):s.take (min 8 s.length)=s.take 8:=by
 rcases Nat.le_total 8 s.length with h|h
 ·rw [Nat.min_eq_left h]
 ·rw [Nat.min_eq_right h,List.take_length,List.take_of_length_le h]
theorem zjS (s:Txt):optHL.take (min 8 s.length)=optHd.take s.length:=by
 rcases Nat.le_total 8 s.length with h|h
 ·rw [Nat.min_eq_left h,List.take_of_length_le (l:=optHd) h];rfl
 ·rw [Nat.min_eq_right h];rfl
theorem zmL (s:Txt) (hs:s.length≤9223372036854775807) (he:s.take 8≠optHd.take s.length):APan Tryz.prog 235 5 [.vp 4 0,.d (.str [73,72,65,86,69,79,80,84])] (rdH s) (thrown 14):=by
 refine pbod Tryz.func235 Tryz.ntmps235 (fun base=>?_)
 obtain ⟨n,hn⟩:∃n,n=min 8 s.length:=⟨_,rfl⟩
 have hmn:imin 8 (s.length:Int)=(n:Int):=by unfold imin;split<;>omega
 have hc:(s.take n !=([73,72,65,86,69,79,80,84]:Txt).take n)=true:=by rw [hn,zmK,show ([73,72,65,86,69,79,80,84]:Txt).take (min 8 s.length)=_ from zjS s];simpa using he
 refine' zar (zP 2) (zF hmn hc @natC)
 all_goals first|omega|skip
 refine zcr noTab (za _) 1 (fun _=>by rfl) ?_
 simp only [go_sem,aeq,aeq.aeqF,simprocAttr]
 rfl
theorem ziT (s:Txt) (h:s.length<8) (he:s.take 8=optHd.take s.length):APan Tryz.prog 235 5 [.vp 4 0,.d (.str [73,72,65,86,69,79,80,84])] (rdH s) (thrown 22):=by
 refine pbod Tryz.func235 Tryz.ntmps235 (fun base=>?_)
 have hmn:imin 8 (s.length:Int)=(s.length:Int):=by unfold imin;split<;>omega
 have hc:(s !=([73,72,65,86,69,79,80,84]:Txt).take s.length)=false:=by
  have:=zjS s
  rw [Nat.min_eq_right (by omega)] at this
  rw [show ([73,72,65,86,69,79,80,84]:Txt).take s.length=_ from this,← he,List.take_of_length_le (by omega)]
  simp
 refine' zar (zP 3) (zF hmn hc @natC)
 all_goals first|omega|skip
 refine zcr noTab (za _) 3 (fun _=>by rfl) ?_
 simp only [go_sem,aeq,aeq.aeqF,simprocAttr]
 exact zeW s 8 h
theorem zmM (s:Txt):IntKind.u32.wrap (numAt s 0 4:Int)=numAt s 0 4:=by
 have:=z8 s 0 4
 exact zcq (by omega) (by omega)
theorem zek (s:Txt) (hs:s.length≤9223372036854775807) (h:4≤s.length):ACall Tryz.prog 236 5 [.vp 4 0] (rdH s) (fun r h'=>r= .d (.int .u32 (numAt s 0 4))∧h'=rdH (s.drop 4)):=by
 refine bod Tryz.func236 Tryz.ntmps236 (fun base=>?_)
 refine' walkW fx (zb zab <| za _)
 refine ((zgH s 4 hs h).whole (zat rfl) (Nat.le_refl _) (fun _ _ hk _=>zdK hk.2)).mono ?_
 rintro r h' ⟨rfl,rfl⟩
 simp only [go_sem,aeq,aeq.aeqF,simprocAttr]
 have hl:(s.take 4).length=4:=by rw [List.length_take];omega
 have ht:takeS (s.take 4) 4=(((numAt s 0 4:Nat):Int),[],0):=by
  rw [zpn (z:=4) 4 rfl (by omega) (by omega) (by omega),List.drop_of_length_le (by omega),List.take_take]
  rfl
 refine' walkW (zu ht (zmM s)) (zb zab <| za _)
theorem zhT (s:Txt) (h:s.length<4):APan Tryz.prog 236 5 [.vp 4 0] (rdH s) (thrown 22):=by
 refine pbod Tryz.func236 Tryz.ntmps236 (fun base=>?_)
 refine' zar (zP 1) fx
 refine zT noTab (za _) 1 (fun _=>by rfl) ?_
 simp only [go_sem,aeq,aeq.aeqF,simprocAttr]
 exact zeW s 4 h
theorem zhU (s:Txt):IntKind.i64.wrap (numAt s 0 4:Int)=numAt s 0 4:=by
 have:=z8 s 0 4
 exact zf (by omega) (by omega)
theorem zjT (s:Txt) (most:Int) (hs:s.length≤9223372036854775807) (h4:4≤s.length) (hm:(numAt s 0 4:Int)≤most) (hn:4+numAt s 0 4≤s.length):ACall Tryz.prog 237 5 [.vp 4 0,.d (.int .i64 most)] (rdH s) (fun r h'=>r= .d (.str ((s.drop 4).take (numAt s 0 4)))∧h'=rdH (s.drop (4+numAt s 0 4))):=by
 refine bod Tryz.func237 Tryz.ntmps237 (fun base=>?_)
 have hc:decide (most<(numAt s 0 4:Int))=false:=decide_eq_false (by omega)
 refine' zc fx
 refine ((zek s hs h4).whole (zat rfl) (Nat.le_refl _) (fun _ _ hk _=>zdK hk.2)).mono ?_
 rintro r h' ⟨rfl,rfl⟩
 simp only [go_sem,aeq,aeq.aeqF,simprocAttr,zhU s]
 refine' zc hc
 refine ((zgH (s.drop 4) (numAt s 0 4) (by rw [List.length_drop];omega) (by rw [List.length_drop];omega)).whole (zat rfl) (Nat.le_refl _) (fun _ _ hk _=>zdK hk.2)).mono ?_
 rintro r h' ⟨rfl,rfl⟩
 simp only [go_sem,aeq,aeq.aeqF,simprocAttr]
 (have tk:=za Tryz.prog);repeat' (first|((first|(refine sa ?_;intro K hK)|refine sb ?_);simp only [go_sem,aeq,aeq.aeqF,simprocAttr,List.drop_drop,Tryz.results237])|refine zbh (fun K hK=>?_)|refine sc ?_|refine zdz rfl (fun hc=>?_) (fun hc=>?_)|(refine hK _ ?_;clear hK K)|with_reducible refine And.intro ?_ ?_|omega|assumption|clear hK K)
 all_goals trace_state
theorem zhV (s:Txt) (most e:Int) (hs:s.length≤9223372036854775807) (h:s.length<4∧e=22∨4≤s.length∧(most<numAt s 0 4∧e=11∨(numAt s 0 4:Int)≤most∧s.length<4+numAt s 0 4∧e=22)):APan Tryz.prog 237 5 [.vp 4 0,.d (.int .i64 most)] (rdH s) (thrown e):=by
 refine pbod Tryz.func237 Tryz.ntmps237 (fun base=>?_)
 refine' zar (zP 1) fx
 rcases h with ⟨h,rfl⟩|⟨h4,h⟩
 ·refine zT noTab (za _) 1 (fun _=>by rfl) ?_
  simp only [go_sem,aeq,aeq.aeqF,simprocAttr]
  exact zhT s h
 ·refine' zc fx
  refine ((zek s hs h4).whole (zat rfl) (Nat.le_refl _) (fun _ _ hk _=>zdK hk.2)).mono ?_
  rintro r h' ⟨rfl,rfl⟩
  simp only [go_sem,aeq,aeq.aeqF,simprocAttr,zhU s]
  rcases h with ⟨hm,rfl⟩|⟨hm,hn,rfl⟩
  ·have hc:decide (most<(numAt s 0 4:Int))=true:=decide_eq_true hm
   refine' zar (zP 3) hc
   refine zcr noTab (za _) 1 (fun _=>by rfl) ?_
   simp only [go_sem,aeq,aeq.aeqF,simprocAttr]
   rfl
  ·have hc:decide (most<(numAt s 0 4:Int))=false:=decide_eq_false (by omega)
   refine' zar (zP 4) hc
   refine zT noTab (za _) 2 (fun _=>by rfl) ?_
   simp only [go_sem,aeq,aeq.aeqF,simprocAttr]
   exact zeW (s.drop 4) (numAt s 0 4) (by rw [List.length_drop];omega)
end Go.Aw
