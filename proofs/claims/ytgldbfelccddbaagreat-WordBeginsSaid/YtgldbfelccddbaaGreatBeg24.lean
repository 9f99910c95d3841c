/-
 Replies as bytes, read: rep.Read, rep.ToSimple.
-/
import Derived.Test.YtgldbfelccddbaaGreatBeg18
set_option maxRecDepth 100000
set_option maxHeartbeats 2000000
set_option linter.unusedSimpArgs false
set_option linter.unusedVariables false
namespace Go.Aw
open Go Go.Proofs
structure Chk where
 done:Bool
 kind:Int
 cookie:Int
 data:Txt
def chkA (c:Chk):AV:= .agg [.d (.bool c.done),.d (.int .i64 c.kind),.d (.int .u64 c.cookie),.d (.str c.data)]
def chk0:Chk:=⟨false,0,0,[]⟩
def chkQ (s:Txt):Chk:=⟨((s.getD 5 0).toNat:Int)==1,numAt s 6 2,numAt s 8 8,(s.drop 20).take (numAt s 16 4)⟩
def chkRd (s:Txt):Chk×Txt×Int:=
 if rpBeg s zaS 20≠0 then (chk0,[],rpBeg s zaS 20)
 else if (s.getD 4 0).toNat≠0∨1<(s.getD 5 0).toNat then (chk0,[],14)
 else if 4128<numAt s 16 4 then (chk0,[],11)
 else if s.length<20+numAt s 16 4 then (chk0,[],22)
 else (chkQ s,s.drop (20+numAt s 16 4),0)
theorem zkz (s:Txt) (hs:s.length≤9223372036854775807):AC 146 [.d (.str s)] (.tup [chkA (chkRd s).1,.d (.str (chkRd s).2.1),.d (.int .i64 (chkRd s).2.2)]):=by
 obtain ⟨V,hV⟩:∃V,V=chkRd s:=⟨_,rfl⟩
 rw [← hV]
 obtain ⟨B,hB⟩:∃B,B=rpBeg s zaS 20:=⟨_,rfl⟩
 rw [chkRd,← hB] at hV
 have hBs:=hB.symm
 by_cases h0:B=0
 ·have h20:=zbG (hB.symm.trans h0)
  rw [if_neg (fun e=>e h0)] at hV
  have hc:(B !=0)=false:=by simpa using h0
  have hw:∀i k:Nat,k≤4→IntKind.i64.wrap (numAt s i k:Int)=numAt s i k:=fun i k hk=>by
   have h1:=z8 s i k
   have h2:256 ^ k≤256 ^ 4:=Nat.pow_le_pow_right (by decide) hk
   exact zf (by omega) (by omega)
  have hw1:=hw 6 2 (by decide)
  have hw2:=hw 16 4 (by decide)
  obtain ⟨N,hN⟩:∃N,N=numAt s 16 4:=⟨_,rfl⟩
  refine fbod Tryz.func146 Tryz.ntmps146 (fun base=>?_)
  refine' walkW (zad hBs hc hw1 hw2 @natC) (zb za5 <| zb zaB <| za _)
  all_goals simp only [Bool.or_eq_true,Bool.or_eq_false_iff,bne_iff_ne,bne_eq_false_iff_eq,decide_eq_true_eq,decide_eq_false_iff_not,List.length_drop] at*
  ·rename_i h5
   rw [hV,if_pos (by omega)];rfl
  ·rename_i h5 h6
   rw [hV,if_neg (by omega),if_pos (by omega)];rfl
  ·rename_i h5 h6 h7
   rw [hV,if_neg (by omega),if_neg (by omega),if_pos (by omega)];rfl
  ·omega
  ·omega
  ·rename_i h5 h6 h7
   rw [hV,if_neg (by omega),if_neg (by omega),if_neg (by omega),List.drop_drop];rfl
 ·have hc:(B !=0)=true:=by simpa using h0
  rw [if_pos h0] at hV
  refine fbod Tryz.func146 Tryz.ntmps146 (fun base=>?_)
  refine' walkW (zu hBs hc) (zb za5 <| zb zaB <| za _)
  rw [hV]
  rfl
@[go_sem] noncomputable def zhB:Ent Tryz.prog 146:= .m1 strT zkz
structure Smp where
 err:Int
 cookie:Int
 data:Txt
def smpA (c:Smp):AV:= .agg [.d (.int .u32 c.err),.d (.int .u64 c.cookie),.d (.str c.data)]
def smp0:Smp:=⟨0,0,[]⟩
def smpN (s:Txt) (n:Int):Int:=if numAt s 4 4≠0 then 0 else n
def smpRd (s:Txt) (n:Int):Smp×Txt×Int:=
 if n<0∨4096<n then (smp0,[],25)
 else if rpBeg s zde 16≠0 then (smp0,[],rpBeg s zde 16)
 else if ((s.drop 16).length:Int)<smpN s n then (smp0,[],22)
 else (⟨numAt s 4 4,numAt s 8 8,(s.drop 16).take (smpN s n).toNat⟩,(s.drop 16).drop (smpN s n).toNat,0)
theorem ziE (s:Txt) (n:Int) (hs:s.length≤9223372036854775807):AC 143 [.d (.str s),.d (.int .i64 n)] (.tup [smpA (smpRd s n).1,.d (.str (smpRd s n).2.1),.d (.int .i64 (smpRd s n).2.2)]):=by
 obtain ⟨V,hV⟩:∃V,V=smpRd s n:=⟨_,rfl⟩
 rw [← hV]
 obtain ⟨B,hB⟩:∃B,B=rpBeg s zde 16:=⟨_,rfl⟩
 rw [smpRd,← hB] at hV
 have hBs:=hB.symm
 by_cases hn:n<0∨4096<n
 ·have hc:(decide (n<0)||decide (4096<n))=true:=by simpa using hn
  rw [if_pos hn] at hV
  refine fbod Tryz.func143 Tryz.ntmps143 (fun base=>?_)
  refine' walkW hc (zb za6 <| zb zaB <| za _)
  rw [hV]
  rfl
 rw [if_neg hn] at hV
 have hcn:(decide (n<0)||decide (4096<n))=false:=by simpa using hn
 by_cases h0:B=0
 ·have h20:=zbG (hB.symm.trans h0)
  rw [if_neg (fun e=>e h0)] at hV
  have hc:(B !=0)=false:=by simpa using h0
  have hw1:IntKind.u32.wrap (numAt s 4 4:Int)=numAt s 4 4:=by
   have:=z8 s 4 4
   exact zcq (by omega) (by omega)
  obtain ⟨N,hN⟩:∃N,N=smpN s n:=⟨_,rfl⟩
  unfold smpN at hN
  by_cases hz:numAt s 4 4=0
  ·have hcz:((numAt s 4 4:Int) !=0)=false:=by rw [hz];rfl
   have hz2:smpN s n=n:=if_neg (fun e=>e hz)
   refine fbod Tryz.func143 Tryz.ntmps143 (fun base=>?_)
   refine' walkW (zA hcn hBs hc hw1 hcz @natC) (zb za6 <| zb zaB <| za _)
   all_goals simp only [decide_eq_true_eq,decide_eq_false_iff_not] at hc
   ·rw [hV,hz2,if_pos hc];rfl
   ·omega
   ·omega
   ·rw [hV,hz2,if_neg hc];rfl
  ·have hz2:smpN s n=0:=if_pos hz
   have hcz:((numAt s 4 4:Int) !=0)=true:=by
    rw [bne_iff_ne]
    omega
   refine fbod Tryz.func143 Tryz.ntmps143 (fun base=>?_)
   refine' walkW (zA hcn hBs hc hw1 hcz @natC) (zb za6 <| zb zaB <| za _)
   rw [hV,hz2,if_neg (by omega)]
   rfl
 ·have hc:(B !=0)=true:=by simpa using h0
  rw [if_pos h0] at hV
  refine fbod Tryz.func143 Tryz.ntmps143 (fun base=>?_)
  refine' walkW (zF hcn hBs hc) (zb za6 <| zb zaB <| za _)
  rw [hV]
  rfl
@[go_sem] noncomputable def zdf:Ent Tryz.prog 143:= .m2 strT (intT .i64) ziE
end Go.Aw
