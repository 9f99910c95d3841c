/-
 The readers of options: what they take off, and what they throw.
-/
import Derived.Test.YtgldbfelccddbaaGreatApa25
set_option linter.all false
set_option maxRecDepth 100000
set_option maxHeartbeats 2000000
namespace Go.Aw
open Go Go.Proofs Go.Proofs.Tryz
abbrev rdH (s:Txt):AHeap:= [(4,.var [.d (.str s)])]
abbrev thrown (e:Int):Value:= .iface 416 (.int .i64 e)
def ziV {s t:Txt} {h':AHeap} {i:Nat} (e:h'=rdH t) (h:(hget (rdH s) i).isSome):(hget h' i).isSome:=by subst e;simp only [hget] at h |-;split at h<;>simp_all
def zno (s:Txt) (n:Nat) (J:s.length<=9223372036854775807) (h:n<=s.length):ACall Tryz.prog 293 5 [.vp 4 0,.d (.int .i64 n)] (rdH s) (λr h'=>r= .d (.str (s.take n))/\h'=rdH (s.drop n)):=by refine bod func293 ntmps293 (λbase=>?_);have hc:decide ((s.length:Int)<n)=false:=ag fT;refine' zc hc
def zkQ (s:Txt) (n:Nat) (h:s.length<n):APan Tryz.prog 293 5 [.vp 4 0,.d (.int .i64 n)] (rdH s) (thrown 22):=by refine pbod func293 ntmps293 (λbase=>?_);have hc:decide ((s.length:Int)<n)=true:=af fT;refine' z8 (zL 2) hc;refine zhe noTab (zb _) 1 (λ_=>iz) ?_;refine' Cl;rfl
abbrev optHL:Txt:= [73,72,65,86,69,79,80,84]
def zti (s:Txt) (J:s.length<=9223372036854775807) (h:8<=s.length) (he:s.take 8=optHd):ACall Tryz.prog 235 5 [.vp 4 0,.d (.str [73,72,65,86,69,79,80,84])] (rdH s) (λr h'=>r= .tup []/\h'=rdH (s.drop 8)):=by refine bod func235 ntmps235 (λbase=>?_);have l6:imin 8 (s.length:Int)=8:=jQ;have hc:(s.take 8 !=([73,72,65,86,69,79,80,84]:Txt))=false:=lz;refine' zc (zg l6 hc);refine ((zno s 8 J h).whole (zV rfl) (aj _) (λ_ _ hk _=>ziV hk.2)).mono ?_;refine' Cp;refine' Cl
def zxL (s:Txt):s.take (min 8 s.length)=s.take 8:=by
 rcases dE 8 s.length with h|h
 .rw [ca h]
 .rw [dc h,aL,aA h]
def ztj (s:Txt):optHL.take (min 8 s.length)=optHd.take s.length:=by
 rcases dE 8 s.length with h|h
 .rw [ca h,aA (l:=optHd) h];rfl
 .rw [dc h];rfl
def zxM (s:Txt) (hs:s.length<=9223372036854775807) (he:s.take 8≠optHd.take s.length):APan Tryz.prog 235 5 [.vp 4 0,.d (.str [73,72,65,86,69,79,80,84])] (rdH s) (thrown 14):=by
 refine pbod func235 ntmps235 (λbase=>?_);obtain ⟨n,J⟩:∃n,n=min 8 s.length:=⟨_,rfl⟩
 have l6:imin 8 (s.length:Int)=(n:Int):=jQ;have hc:(s.take n !=([73,72,65,86,69,79,80,84]:Txt).take n)=true:=by rw [J,zxL,show ([73,72,65,86,69,79,80,84]:Txt).take (min 8 s.length)=_ from ztj s];simpa using he
 refine' z8 (zL 2) (zp l6 hc @natC);all_goals first|omega|skip
 refine zhe noTab (zb _) 1 (λ_=>iz) ?_;refine' Cl;rfl
def zrq (s:Txt) (h:s.length<8) (he:s.take 8=optHd.take s.length):APan Tryz.prog 235 5 [.vp 4 0,.d (.str [73,72,65,86,69,79,80,84])] (rdH s) (thrown 22):=by
 refine pbod func235 ntmps235 (λbase=>?_);have l6:imin 8 (s.length:Int)=(s.length:Int):=jQ
 have hc:(s !=([73,72,65,86,69,79,80,84]:Txt).take s.length)=false:=by have:=ztj s;rw [dc fT] at this;rw [show ([73,72,65,86,69,79,80,84]:Txt).take s.length=_ from this,<-he,aA fT];simp
 refine' z8 (zL 3) (zp l6 hc @natC);all_goals first|omega|skip
 refine zhe noTab (zb _) 3 (λ_=>iz) ?_;refine' Cl;exact zkQ s 8 h
def zxN (s:Txt):IntKind.u32.wrap (numAt s 0 4:Int)=numAt s 0 4:=by have:=zbA s 0 4;exact zbT fT fT
def zjT (s:Txt) (J:s.length<=9223372036854775807) (h:4<=s.length):ACall Tryz.prog 236 5 [.vp 4 0] (rdH s) (λr h'=>r= .d (.int .u32 (numAt s 0 4))/\h'=rdH (s.drop 4)):=by
 refine bod func236 ntmps236 (λbase=>?_);refine' walkW fx (za zaN <| zb _);refine ((zno s 4 J h).whole (zV rfl) (aj _) (λ_ _ hk _=>ziV hk.2)).mono ?_;refine' Cp;refine' Cl;have hl:(s.take 4).length=4:=hU
 have ht:takeS (s.take 4) 4=(((numAt s 0 4:Nat):Int),[],0):=by rw [zga (z:=4) 4 rfl fT fT fT,bQ fT,List.take_take];rfl
 refine' walkW (zg ht (zxN s)) (za zaN <| zb _)
def zpi (s:Txt) (h:s.length<4):APan Tryz.prog 236 5 [.vp 4 0] (rdH s) (thrown 22):=by refine pbod func236 ntmps236 (λbase=>?_);refine' z8 (zL 1) fx;refine' Fq;refine' Cl;exact zkQ s 4 h
def zpj (s:Txt):IntKind.i64.wrap (numAt s 0 4:Int)=numAt s 0 4:=by have:=zbA s 0 4;exact zf fT fT
def ztk (s:Txt) (ns:Int) (hs:s.length<=9223372036854775807) (h4:4<=s.length) (hm:(numAt s 0 4:Int)<=ns) (hn:4+numAt s 0 4<=s.length):ACall Tryz.prog 237 5 [.vp 4 0,.d (.int .i64 ns)] (rdH s) (λr h'=>r= .d (.str ((s.drop 4).take (numAt s 0 4)))/\h'=rdH (s.drop (4+numAt s 0 4))):=by
 refine bod func237 ntmps237 (λbase=>?_);have hc:decide (ns<(numAt s 0 4:Int))=false:=ag fT;refine' Ds;refine ((zjT s hs h4).whole (zV rfl) (aj _) (λ_ _ J _=>ziV J.2)).mono ?_;refine' Cp;simp only [go_sem,aeq,aeq.aeqF,simprocAttr,zpj s];refine' zc hc;refine ((zno (s.drop 4) (numAt s 0 4) gG gG).whole (zV rfl) (aj _) (λ_ _ J _=>ziV J.2)).mono ?_;refine' Cp;refine' Cl
 (have tk:=zb Tryz.prog);repeat' (first|((first|(refine sa ?_;intro K hK)|refine sb ?_);simp only [go_sem,aeq,aeq.aeqF,simprocAttr,bc,results237])|refine zaC (λK hK=>?_)|refine sc ?_|refine za1 rfl (λhc=>?_) (λhc=>?_)|(refine hK _ ?_;clear hK K)|with_reducible refine And.intro ?_ ?_|omega|assumption|clear hK K)
 all_goals skip
def zpk (s:Txt) (ns e:Int) (J:s.length<=9223372036854775807) (h:s.length<4/\e=22\/4<=s.length/\(ns<numAt s 0 4/\e=11\/(numAt s 0 4:Int)<=ns/\s.length<4+numAt s 0 4/\e=22)):APan Tryz.prog 237 5 [.vp 4 0,.d (.int .i64 ns)] (rdH s) (thrown e):=by
 refine pbod func237 ntmps237 (λbase=>?_);refine' z8 (zL 1) fx;rcases h with ⟨h,rfl⟩|⟨h4,h⟩
 .refine' Fq;refine' Cl;exact zpi s h
 .refine' Ds;refine ((zjT s J h4).whole (zV rfl) (aj _) (λ_ _ hk _=>ziV hk.2)).mono ?_;refine' Cp;simp only [go_sem,aeq,aeq.aeqF,simprocAttr,zpj s];rcases h with ⟨hm,rfl⟩|⟨hm,hn,rfl⟩
  .have hc:decide (ns<(numAt s 0 4:Int))=true:=af hm;refine' z8 (zL 3) hc;refine zhe noTab (zb _) 1 (λ_=>iz) ?_;refine' Cl;rfl
  .have hc:decide (ns<(numAt s 0 4:Int))=false:=ag fT;refine' z8 (zL 4) hc;refine zbp noTab (zb _) 2 (λ_=>iz) ?_;refine' Cl;exact zkQ (s.drop 4) (numAt s 0 4) gG
end Go.Aw
