/-
 Requests, the program's: a step, a run.
-/
import Derived.Test.YtgkjmbopnaeanaaGreatPart41
set_option maxRecDepth 100000
set_option maxHeartbeats 2000000
set_option linter.unusedSimpArgs false
set_option linter.unusedVariables false
namespace Go.Aw
open Go Go.Proofs
theorem ztn (s:Tw) (h:ImgF s.x) (g0:0≤s.x.geom.guest) (hm:s.x.maps.length≤5000) (hq:RqOk s.q) (hf:s.q.frm≤1000000) (hml:s.ms.length≤1000) (hmr:∀m∈s.ms,0≤m∧m<4294967296) (hk:s.q.kind=7):ACall Tryz.prog 48 30 [.vp 4 0] [(4,.var (twV s (.nils 2)))] (fun r h'=>∃ob',h'= [(4,ob')]∧∃L,r= .d (.int .i64 (tctxL s.x s.q s.ms []).2)∧((tctxL s.x s.q s.ms []).2=0→L=(tctxL s.x s.q s.ms []).1)∧ob'= .var (twV s (.d (.sl 2 (L.map spnD))))):=by
 refine bod Tryz.func48 Tryz.ntmps48 (fun base=>?_)
 have hb:(s.q.kind==7)=true:=by simpa using hk
 refine' zc hb
 refine ((zqY s h g0 hm hq hf hml hmr).one rfl rfl (z2 rfl) rfl (zec rfl) (by simp [AV.idsL,AV.ids]) (by omega)).mono ?_
 rintro r h' ⟨ob',⟨L,rfl,hL,rfl⟩,rfl⟩
 simp only [go_sem,aeq,aeq.aeqF,simprocAttr,hsel]
 refine' zc fx
 all_goals first|exact ⟨_,rfl,L,rfl,hL,rfl⟩|exact ⟨_,rfl,L,hL,rfl⟩|skip
theorem zto (s:Tw) (h:ImgF s.x) (hk:s.q.kind≠7):ACall Tryz.prog 48 30 [.vp 4 0] [(4,.var (twV s (.nils 2)))] (fun r h'=>∃ob',h'= [(4,ob')]∧r= .d (.int .i64 (tlast s.x s.q s.ms).2.2)∧ob'= .var (twV { s with x:=(tlast s.x s.q s.ms).1 } (.nils 2))):=by
 refine bod Tryz.func48 Tryz.ntmps48 (fun base=>?_)
 have hb:(s.q.kind==7)=false:=by simpa using hk
 rw [tlast,if_neg hk]
 cases hb2:(s.q.kind==3||(ibits .and .i64 s.q.flags 1 !=0)) with
 | true=>
  have h3:s.q.kind=3∨hasF s.q.flags 1=true:=by
   simp only [Bool.or_eq_true,beq_iff_eq] at hb2
   exact hb2
  rw [if_pos h3]
  refine' zc (zk hb hb2)
  refine (zco (fix1 (zth s h)) (by decide) rfl (zec rfl) (by simp [AV.idsL,AV.ids])).mono ?_
  rintro r h' ⟨rfl,rfl⟩
  simp only [go_sem,aeq,aeq.aeqF,simprocAttr]
  refine' zc fx
  all_goals first|exact ⟨_,rfl,rfl,rfl⟩|exact ⟨_,rfl,rfl⟩|skip
 | false=>
  have h3:¬(s.q.kind=3∨hasF s.q.flags 1=true):=by
   rw [← Bool.not_eq_true] at hb2
   simp only [Bool.or_eq_true,beq_iff_eq] at hb2
   exact hb2
  rw [if_neg h3]
  refine' zc (zk hb hb2)
  all_goals first|exact ⟨_,rfl,rfl,rfl⟩|exact ⟨_,rfl,rfl⟩|skip
theorem zpw (x:Img) (t:Tsk) (ms:List Int) (hp:TkOk x t∧ms.length≤1000∧(∀m∈ms,0≤m∧m<4294967296)):AC 17 [imgA x,tskA t,.d (.sl 1 (ms.map u32D))] (.tup [imgA (tstep x t ms).1,tskA (tstep x t ms).2]):=by
 obtain ⟨h,hm,hr⟩:=hp
 refine fbod Tryz.func17 Tryz.ntmps17 (fun base=>?_)
 obtain ⟨Z,hZ⟩:∃Z,Z=tstep x t ms:=⟨_,rfl⟩
 rw [← hZ]
 have hio:=h.img
 have hg0:=h.g0
 have hmp:=h.maps
 have hok:=h.ok
 have hfr:=h.frm
 have hlo:=h.lo
 have hhi:=h.hi
 have hln:=h.len
 have hdl:=h.data
 have hnf:=zkM t.q.flags 1
 cases hd:t.done with
 |true=>
  rw [zfJ hd] at hZ
  refine' zc hd
  all_goals first|(rw [hZ];done)|(rw [hZ,← hd];done)|(rw [hZ,← hd];rfl)|skip
 |false=>
 have hsp:=h.spans hd
 by_cases hl:t.loc<t.cuts.length
 ·have hb:decide (t.loc<(t.cuts.length:Int))=true:=decide_eq_true hl
  rw [zpu hd (by omega)] at hZ
  obtain ⟨k,hk⟩:∃k:Nat,t.loc=k:=⟨t.loc.toNat,by omega⟩
  obtain ⟨⟨c0,c1,c2⟩,hc⟩:=zai (l:=t.cuts) (i:=k) (by omega)
  have hrow:=za1 (g:=cutD) hc
  simp only [cutD] at hrow
  have hkn:t.loc.toNat=k:=by omega
  obtain ⟨hm1,hm2,hm3⟩:=h.cut _ (List.mem_of_getElem? hc)
  simp only at hm1 hm2 hm3
  rw [tpcG,List.getD_eq_getElem?_getD,hkn,hc] at hZ
  simp only [Option.getD_some] at hZ
  obtain ⟨P,hP⟩:∃P,P=tpc x t.q (c0,c1,c2):=⟨_,rfl⟩
  rw [tpcK,← hP] at hZ
  have hwk:IntKind.i64.wrap (t.loc+1)=t.loc+1:=ze (by omega) (by omega)
  have hW:TwOk ⟨t.q,t.cuts,t.loc,t.err,t.data,[],false,x,ms,c0,c1,c2⟩:=⟨hok,hio,hg0,hmp,by simp,by simp,by simp,by simp only;omega,by simp only;omega,fun hk1=>by have:=hm3 hk1;simp only;omega,hdl⟩
  rcases h.kind (by intro e;rw [e] at hc;cases hc) with hq|hq|hq|hq
  ·have hkt:Int.toNat t.q.kind=0:=by rw [hq];rfl
   obtain ⟨R,hR⟩:∃R,R=iread x (c0*128+c1) c2:=⟨_,rfl⟩
   have hPe:P=(x,R):=by rw [hP,tpc,if_pos hq,hR]
   rw [hPe] at hZ
   simp only at hZ
   refine' zc (zaH hd hb hrow hkn hkt)
   refine (zco (fix1 (zvf _ hW)) (by decide) rfl (zec rfl) (by simp [AV.idsL,AV.ids])).mono ?_
   rintro r h' ⟨rfl,rfl⟩
   simp only [← hR]
   cases he:(R.2 !=0) with
   |true=>
    rw [if_pos (by simpa using he),tfail] at hZ
    simp only [go_sem,aeq,aeq.aeqF,simprocAttr]
    refine' zc (zr hwk he hnf)
    all_goals first|(rw [if_pos (beqP hc)] at hZ;rw [hZ];done)|(rw [if_pos (beqP hc)] at hZ;rw [hZ];rfl)|(rw [if_neg (beqN hc)] at hZ;rw [hZ];done)|(rw [if_neg (beqN hc)] at hZ;rw [hZ];rfl)|skip
   |false=>
    rw [if_neg (by simpa using he)] at hZ
    simp only [go_sem,aeq,aeq.aeqF,simprocAttr]
    refine' zc (zr hwk he hnf)
    all_goals first|(rw [hZ,hsp];done)|(rw [hZ,hsp];rfl)|(rw [hZ];done)|(rw [hZ];rfl)|skip
  ·have hkt:Int.toNat t.q.kind=1:=by rw [hq];rfl
   obtain ⟨s,hs⟩:∃s,s=(t.q.data.take ((c0:Int)*128+c1 - t.q.frm+c2).toNat).drop ((c0:Int)*128+c1 - t.q.frm).toNat:=⟨_,rfl⟩
   obtain ⟨R,hR⟩:∃R,R=zbk x c0 c1 s:=⟨_,rfl⟩
   have hPe:P=(R.1,[],R.2):=by rw [hP,tpc,if_neg (by rw [hq];decide),if_pos hq,hR,hs]
   rw [hPe] at hZ
   simp only [List.append_nil] at hZ
   have hww:=ztg _ hW hq
   simp only [← hs,← hR] at hww
   refine' zc (zaH hd hb hrow hkn hkt)
   refine (zco (fix1 hww) (by decide) rfl (zec rfl) (by simp [AV.idsL,AV.ids])).mono ?_
   rintro r h' ⟨rfl,rfl⟩
   cases he:(R.2 !=0) with
   |true=>
    rw [if_pos (by simpa using he),tfail] at hZ
    simp only [go_sem,aeq,aeq.aeqF,simprocAttr]
    refine' zc (zr hwk he hnf)
    all_goals first|(rw [if_pos (beqP hc)] at hZ;rw [hZ];done)|(rw [if_pos (beqP hc)] at hZ;rw [hZ];rfl)|(rw [if_neg (beqN hc)] at hZ;rw [hZ];done)|(rw [if_neg (beqN hc)] at hZ;rw [hZ];rfl)|skip
   |false=>
    rw [if_neg (by simpa using he)] at hZ
    simp only [go_sem,aeq,aeq.aeqF,simprocAttr]
    refine' zc (zr hwk he hnf)
    all_goals first|(rw [hZ,hsp];done)|(rw [hZ,hsp];rfl)|(rw [hZ];done)|(rw [hZ];rfl)|skip
  ·have hkt:Int.toNat t.q.kind=4:=by rw [hq];rfl
   obtain ⟨R,hR⟩:∃R,R=zbE true (c0,c1,c2) x:=⟨_,rfl⟩
   have hPe:P=(R.1,[],R.2):=by
    rw [hP,tpc,if_neg (by rw [hq];decide),if_neg (by rw [hq];decide),hR,hq]
    rfl
   rw [hPe] at hZ
   simp only [List.append_nil] at hZ
   have hww:=zvg _ hW c0 c1 c2 rfl rfl rfl
   simp only [← hR] at hww
   refine' zc (zaH hd hb hrow hkn hkt)
   refine (zco (fix1 hww) (by decide) rfl (zec rfl) (by simp [AV.idsL,AV.ids])).mono ?_
   rintro r h' ⟨rfl,rfl⟩
   cases he:(R.2 !=0) with
   |true=>
    rw [if_pos (by simpa using he),tfail] at hZ
    simp only [go_sem,aeq,aeq.aeqF,simprocAttr]
    refine' zc (zr hwk he hnf)
    all_goals first|(rw [if_pos (beqP hc)] at hZ;rw [hZ];done)|(rw [if_pos (beqP hc)] at hZ;rw [hZ];rfl)|(rw [if_neg (beqN hc)] at hZ;rw [hZ];done)|(rw [if_neg (beqN hc)] at hZ;rw [hZ];rfl)|skip
   |false=>
    rw [if_neg (by simpa using he)] at hZ
    simp only [go_sem,aeq,aeq.aeqF,simprocAttr]
    refine' zc (zr hwk he hnf)
    all_goals first|(rw [hZ,hsp];done)|(rw [hZ,hsp];rfl)|(rw [hZ];done)|(rw [hZ];rfl)|skip
  ·have hkt:Int.toNat t.q.kind=6:=by rw [hq];rfl
   obtain ⟨R,hR⟩:∃R,R=zbE (!hasF t.q.flags 2) (c0,c1,c2) x:=⟨_,rfl⟩
   have hPe:P=(R.1,[],R.2):=by
    rw [hP,tpc,if_neg (by rw [hq];decide),if_neg (by rw [hq];decide),hR,hq]
    rfl
   rw [hPe] at hZ
   simp only [List.append_nil] at hZ
   have hww:=zvh _ hW c0 c1 c2 rfl rfl rfl
   simp only [← hR] at hww
   refine' zc (zaH hd hb hrow hkn hkt)
   refine (zco (fix1 hww) (by decide) rfl (zec rfl) (by simp [AV.idsL,AV.ids])).mono ?_
   rintro r h' ⟨rfl,rfl⟩
   cases he:(R.2 !=0) with
   |true=>
    rw [if_pos (by simpa using he),tfail] at hZ
    simp only [go_sem,aeq,aeq.aeqF,simprocAttr]
    refine' zc (zr hwk he hnf)
    all_goals first|(rw [if_pos (beqP hc)] at hZ;rw [hZ];done)|(rw [if_pos (beqP hc)] at hZ;rw [hZ];rfl)|(rw [if_neg (beqN hc)] at hZ;rw [hZ];done)|(rw [if_neg (beqN hc)] at hZ;rw [hZ];rfl)|skip
   |false=>
    rw [if_neg (by simpa using he)] at hZ
    simp only [go_sem,aeq,aeq.aeqF,simprocAttr]
    refine' zc (zr hwk he hnf)
    all_goals first|(rw [hZ,hsp];done)|(rw [hZ,hsp];rfl)|(rw [hZ];done)|(rw [hZ];rfl)|skip
 have hb:decide (t.loc<(t.cuts.length:Int))=false:=decide_eq_false hl
 rw [zjN hd (by omega),zs5] at hZ
 by_cases h7:t.q.kind=7
 ·have hl7:=ztn ⟨t.q,t.cuts,t.loc,t.err,t.data,[],false,x,ms,0,0,0⟩ hio hg0 hmp hok hfr hm hr h7
  rw [tlast,if_pos h7] at hZ
  simp only at hl7 hZ
  obtain ⟨S,hS⟩:∃S,S=tctxL x t.q ms []:=⟨_,rfl⟩
  rw [← hS] at hl7 hZ
  refine' zc (zk hd hb)
  refine (hl7.one rfl rfl (z2 rfl) rfl (zec rfl) (by simp [AV.idsL,AV.ids]) (by omega)).mono ?_
  rintro r h' ⟨ob',⟨L,rfl,hL,rfl⟩,rfl⟩
  cases he:(S.2 !=0) with
  |true=>
   rw [if_pos (by simpa using he),tfail] at hZ
   simp only [go_sem,aeq,aeq.aeqF,simprocAttr,hsel]
   refine' zc he
   all_goals first|(rw [if_pos (beqP hc)] at hZ;rw [hZ];done)|(rw [if_pos (beqP hc)] at hZ;rw [hZ];rfl)|(rw [if_neg (beqN hc)] at hZ;rw [hZ];done)|(rw [if_neg (beqN hc)] at hZ;rw [hZ];rfl)|skip
  |false=>
   rw [if_neg (by simpa using he)] at hZ
   rw [hL (by simpa using he)]
   simp only [go_sem,aeq,aeq.aeqF,simprocAttr,hsel]
   refine' zc he
   all_goals first|(rw [hZ];done)|(rw [hZ];rfl)|(rw [hZ];done)|(rw [hZ];rfl)|skip
 ·have hlN:=zto ⟨t.q,t.cuts,t.loc,t.err,t.data,[],false,x,ms,0,0,0⟩ hio h7
  have hsn:(tlast x t.q ms).2.1= []:=by
   rw [tlast,if_neg h7]
   split<;>rfl
  simp only at hlN
  obtain ⟨S,hS⟩:∃S,S=tlast x t.q ms:=⟨_,rfl⟩
  rw [← hS] at hlN hZ hsn
  refine' zc (zk hd hb)
  refine (zco (fix1 hlN) (by decide) rfl (zec rfl) (by simp [AV.idsL,AV.ids])).mono ?_
  rintro r h' ⟨rfl,rfl⟩
  cases he:(S.2.2 !=0) with
  |true=>
   rw [if_pos (by simpa using he),tfail] at hZ
   simp only [go_sem,aeq,aeq.aeqF,simprocAttr]
   refine' zc he
   all_goals first|(rw [if_pos (beqP hc)] at hZ;rw [hZ];done)|(rw [if_pos (beqP hc)] at hZ;rw [hZ];rfl)|(rw [if_neg (beqN hc)] at hZ;rw [hZ];done)|(rw [if_neg (beqN hc)] at hZ;rw [hZ];rfl)|skip
  |false=>
   rw [if_neg (by simpa using he),hsn] at hZ
   simp only [go_sem,aeq,aeq.aeqF,simprocAttr]
   refine' zc he
   all_goals first|(rw [hZ];done)|(rw [hZ];rfl)|(rw [hZ];done)|(rw [hZ];rfl)|skip
@[go_sem] noncomputable def zcZ:Ent Tryz.prog 17:= .m3 zaO zfn (slT 1 u32D zfI) zpw
end Go.Aw
